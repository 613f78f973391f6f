/- A part of the proof of FnExactDescribePoints: printed contracts and plain laws, joined by a program of this session. -/
import Derived.Test.YteaagaekdkolnaaGreatDoorZFnExactDescribePoints3
import Derived.Lib.AtoiErrMem
namespace Go.Proofs.YteaagaekdkolnaaGreatDoor.P
open Go.RowKit Go.Proofs.YteaagaekdkolnaaGreatDoorW.PrintWords Go.Proofs.YteaagaekdkolnaaGreatDoorW.PrintLast Go.Proofs.YteaagaekdkolnaaGreatDoorW.PrintMore
attribute [local go_sem] max2_int min2_int max_two min_two max_three min_three max_four min_four   -- for this text's walks alone
set_option linter.unusedVariables false
set_option linter.unusedSimpArgs false
/-! ### impl_elementsOf: function 81 -/
def impl_elementsOf.l0 : Nat → Int → List Int → Int → Option (List Int)
 | 0, _, _, _ => none
 | k + 1, x0, x3, x4 => if x4 < 63 then (if 0 ≤ x4 then (if (Go.bits .and .i64 (shr .i64 x0 x4) 1) = 1 then (if x3.length < 17592186044416 then (impl_elementsOf.l0 k x0 (x3 ++ [x4]) (wrap64 (x4 + 1))) else (none)) else (impl_elementsOf.l0 k x0 x3 (wrap64 (x4 + 1)))) else (none)) else (some x3)
def impl_elementsOf.f (k : Nat) (a0 : Int) : Option (List Int) := impl_elementsOf.l0 k a0 ([] : List Int) 0
theorem impl_elementsOf.mono_l : ∀ k, (∀ y0 y1 y2, LeO (impl_elementsOf.l0 k y0 y1 y2) (impl_elementsOf.l0 (k + 1) y0 y1 y2))
 | 0 => fun _ _ _ r h => by simp [impl_elementsOf.l0] at h
 | k + 1 => by
  have ih0 := impl_elementsOf.mono_l k
  (intros; unfold impl_elementsOf.l0; repeat' (with_reducible first | exact ih0 _ _ _ | exact LeO.refl _ | exact LeO.none _ | refine LeO.ite ?_ ?_ | refine LeO.bind ?_ (fun _ => ?_)))
theorem impl_elementsOf.mono : ∀ a0 k, LeO (impl_elementsOf.f k a0) (impl_elementsOf.f (k + 1) a0) := by
 intro a0 k
 have ih0 := impl_elementsOf.mono_l k
 unfold impl_elementsOf.f
 repeat' first
   | (with_reducible exact ih0 _ _ _)
   | (with_reducible exact LeO.refl _)
   | (with_reducible exact LeO.none _)
   | (with_reducible refine LeO.ite ?_ ?_)
   | (with_reducible refine LeO.bind ?_ (fun _ => ?_))
set_option maxHeartbeats 8000000 in
set_option maxRecDepth 100000 in
theorem impl_elementsOf.calls (k : Nat) (a0 : Int) (r : List Int) (w : World) (h : impl_elementsOf.f k a0 = some r) :
  Calls Tryz.prog 81 #[.int .i64 a0] w fun e w' => ∃ v0_ : Value, e = .returned (v0_) ∧ Kd.R (Kd.int .i64) 3 w' w.heap.size (fun _ => True) v0_ r ∧ Below w.heap.size w w' := by
 have HB := aM_ (Below.refl w.heap.size w)
 have H : (impl_elementsOf.l0 k a0 ([] : List Int) 0) = some r := h
 clear h
 have H' := aM_ H
 clear H
 go_enter Tryz.func81, Tryz.ntmps81
 go_wp2
 go_loopg [3, 4] k (fun kq v3 v4 w' => ∃ (x3_1 : List Int) (x4_1 : Int), v4 = .int .i64 x4_1 ∧ Aside0 (impl_elementsOf.l0 kq a0 x3_1 x4_1 = some r) ∧ Aside0 (kq ≤ k) ∧ Aside0 (Kd.R (Kd.int .i64) 3 w' w.heap.size (fun _ => True) v3 x3_1) ∧ Aside0 (Below w.heap.size w w'))
 case atStart => exact ⟨(([] : List Int)), (0), veq_, H', ⟨Nat.le_refl _⟩, ⟨by first | exact Kd.R_nil _ _ _ _ _ | exact Kd.N_nil _ _ _ _ _ | exact Kd.V_nil _ _ _ _ _ | exact Kd.Q_nil _ _ _ _ _ | exact Kd.S_nil _ _ _ _ _⟩, ⟨bB_ HB⟩⟩
 case round =>
  clear H'
  obtain ⟨x3_1, x4_1, rfl, HA, HK1, HO_3, HB⟩ := hrel
  cases gk with
  | zero => exact absurd HA.out (by simp [impl_elementsOf.l0])
  | succ k1 =>
   have H := HA.out
   clear HA
   simp only [impl_elementsOf.l0] at H
   rcases ifd_ H with ⟨c2b0, H⟩ | ⟨c2b0, H⟩
   ·obtain ⟨c3, H⟩ := ifp_ H
    have c3b0 := eq_true c3
    have c3b1 := decide_eq_true c3
    clear c3
    obtain ⟨ji4, hji4⟩ : ∃ j_ : Int, (shr .i64 a0 x4_1) = j_ := ⟨_, rfl⟩
    replace H : (if (Go.bits .and .i64 (ji4) 1) = 1 then (if x3_1.length < 17592186044416 then (impl_elementsOf.l0 k1 a0 (x3_1 ++ [x4_1]) (wrap64 (x4_1 + 1))) else (none)) else (impl_elementsOf.l0 k1 a0 x3_1 (wrap64 (x4_1 + 1)))) = some r := by first | (rw [hji4] at H; exact H) | (simp only [hji4] at H ⊢; exact H)
    have hji4_ : (a0 / 2 ^ min x4_1.toNat 64) = ji4 := hji4
    have hji4z : x4_1 ≤ 64 → (a0 / 2 ^ x4_1.toNat) = ji4 := shr_small hji4
    rcases ifc_ H with ⟨c5, H⟩ | ⟨c5, H⟩
    ·have c5b0 : ((Go.bits .and .i64 (ji4) 1) == 1) = true := beq_iff_eq.mpr c5
     have c5b1 : ((Go.bits .and .i64 (ji4) 1) != 1) = false := bne_eq_false_iff_eq.mpr c5
     clear c5
     obtain ⟨c6, H⟩ := ifp_ H
     have LMc6 := aM_ c6
     clear c6
     obtain ⟨y101, hy101⟩ : ∃ y_ : List Int, y_ = (x3_1 ++ [x4_1]) := ⟨_, rfl⟩
     replace H : (impl_elementsOf.l0 k1 a0 y101 (wrap64 (x4_1 + 1))) = some r := by first | (rw [hy101]; with_reducible exact H) | (have H2_ := (Option.bind_some _ _).symm.trans H; rw [hy101]; with_reducible exact H2_) | (have H2_ := (Option.bind_some _ _).symm.trans H; with_reducible exact H2_) | with_reducible exact H | (rw [hy101]; exact H) | exact H
     have Ny101 := aM_ hy101
     clear hy101
     have H' := aM_ H
     clear H
     go_wp2_with (first | ((with_reducible refine gate_builtin (b := .append) (xs := #[.tmp 14, .tmp 16]) rfl ?_); at_builtin; refine Kd.R_append (Kd.int .i64) (w0 := w) w.heap.size rfl (.tmp 14) (.tmp 16) 48 3 (.int .i64 0) 8 rfl Tryz.underlying48 info3 rfl (by decide) (by omega) u3 x3_1 x4_1 [.int .i64 x4_1] (fun _ => True) (fun _ => False) rfl rfl ?aP (fun _ hk => hk.elim) ?aF ?aO ?aB ?aS ?aL ?_; (case aP => exact rfl); (case aB => exact (bB_ HB)); (case aF => exact (fun _ _ => trivial)); (case aO => exact (kr_ HO_3)); (case aS => exact (below_size (bB_ HB))); (case aL => have := LMc6.out; omega); intro v102 w7 ho hb hg hat; rw [← Ny101.out] at ho; replace HB := aM_ (hb); have HO103 := aM_ (ho); clear HO_3; clear ho hb hg hat))
     go_roundg k1
     case measure => have := HK1.out; omega
     case rel => exact ⟨(y101), (wrap64 (x4_1 + 1)), veq_, H', ⟨by have := HK1.out; omega⟩, ⟨kr_ HO103⟩, ⟨bB_ HB⟩⟩
    ·have c5b0 : ((Go.bits .and .i64 (ji4) 1) == 1) = false := beq_eq_false_iff_ne.mpr c5
     have c5b1 : ((Go.bits .and .i64 (ji4) 1) != 1) = true := bne_iff_ne.mpr c5
     have H' := aM_ H
     clear H
     go_wp2
     go_roundg k1
     case measure => have := HK1.out; omega
     case rel => exact ⟨(x3_1), (wrap64 (x4_1 + 1)), veq_, H', ⟨by have := HK1.out; omega⟩, ⟨kr_ HO_3⟩, ⟨bB_ HB⟩⟩
   ·obtain rfl := Option.some.inj H
    go_wp2
    go_ret
    exact ⟨_, verr_, kr_ HO_3, bB_ HB⟩
end Go.Proofs.YteaagaekdkolnaaGreatDoor.P

namespace Go.Proofs.YteaagaekdkolnaaGreatDoor.P
open Go.RowKit Go.Proofs.YteaagaekdkolnaaGreatDoorW.PrintWords Go.Proofs.YteaagaekdkolnaaGreatDoorW.PrintLast Go.Proofs.YteaagaekdkolnaaGreatDoorW.PrintMore
attribute [local go_sem] max2_int min2_int max_two min_two max_three min_three max_four min_four   -- for this text's walks alone
set_option linter.unusedVariables false
set_option linter.unusedSimpArgs false
/-! ### impl_opposite: function 114 -/
def flipU (b : UInt8) : UInt8 := if b = 43 then 45 else if b = 45 then 43 else b
def flipI (b : Int) : Int := if b = 43 then 45 else if b = 45 then 43 else b
theorem flip_is (b : UInt8) : flipI (b.toNat : Int) = ((flipU b).toNat : Int) := by
 unfold flipI flipU
 by_cases h1 : b = 43
 ·subst h1; rfl
 ·have e1 : ¬ ((b.toNat : Int) = 43) := fun e => h1 (by apply UInt8.toNat_inj.1; show b.toNat = 43; omega)
  rw [if_neg h1, if_neg e1]
  by_cases h2 : b = 45
  ·subst h2; rfl
  ·have e2 : ¬ ((b.toNat : Int) = 45) := fun e => h2 (by apply UInt8.toNat_inj.1; show b.toNat = 45; omega)
   rw [if_neg h2, if_neg e2]
def oppText (s : ByteArray) : ByteArray := ⟨(s.data.toList.map flipU).toArray⟩
def oppL (s : ByteArray) : List Int := s.data.toList.map fun b => (b.toNat : Int)
theorem oppL_length (s : ByteArray) : (oppL s).length = s.size := by unfold oppL; rw [List.length_map, Array.length_toList]; rfl
def impl_opposite.f (a0 : ByteArray) : Option ByteArray := if a0.size < 4611686018427387904 then some (oppText a0) else none
theorem blk_setF {w : World} {g : Nat} {t : TypeId} {fr : Nat × Nat} {cs : Array Value} (h : w.heap[g]? = some (.cells cs t fr)) (i : Nat) (u : Value) : (w.setCell ⟨g, i, none⟩ u).heap[g]? = some (.cells (cs.setIfInBounds i u) t fr) := by
 simp [World.setCell, Array.getElem?_modify, h]
theorem blk_frozenF {w : World} {g : Nat} {t : TypeId} {lo hi : Nat} {cs : Array Value} (h : w.heap[g]? = some (.cells cs t (lo, hi))) (i : Nat) (hi : i < lo) : w.frozen? ⟨g, i, none⟩ = false := by
 simp [World.frozen?, h]
 omega
def oppRow (w' : World) (g m : Nat) (xs : List Int) : Prop := ∃ cur, w'.heap[g]? = some (.cells cur 5 (m, m + 1)) ∧ xs.length ≤ m ∧ ∀ j, j < xs.length → cur[j]? = some (.int .u8 (xs.getD j 0))
theorem oppRow_cell {w' : World} {g m : Nat} {xs : List Int} (h : oppRow w' g m xs) (j : Nat) (hj : j < xs.length) : w'.cell? ⟨g, j, none⟩ = some (.int .u8 (xs.getD j 0)) ∧ w'.frozen? ⟨g, j, none⟩ = false := by
 obtain ⟨cur, h1, h2, h3⟩ := h
 exact ⟨(cell_of_row w' g j cur _ _ h1).trans (h3 j hj), blk_frozenF h1 j (by omega)⟩
theorem oppRow_set {w' : World} {g m : Nat} {xs : List Int} (h : oppRow w' g m xs) (j : Nat) (v : Int) : oppRow (w'.setCell ⟨g, j, none⟩ (.int .u8 v)) g m (xs.set j v) := by
 obtain ⟨cur, h1, h2, h3⟩ := h
 refine ⟨_, blk_setF h1 j _, by rw [List.length_set]; exact h2, fun i hi => ?_⟩
 rw [List.length_set] at hi
 rw [Array.getElem?_setIfInBounds]
 by_cases e : j = i
 ·subst e
  have : j < cur.size := by
   have := h3 j hi
   rcases Nat.lt_or_ge j cur.size with h | h
   ·exact h
   ·rw [Array.getElem?_eq_none h] at this; cases this
  rw [if_pos rfl, if_pos this]
  simp [List.getD_eq_getElem?_getD, hi]
 ·rw [if_neg e, h3 i hi]
  simp [List.getD_eq_getElem?_getD, e]
theorem opp_new (w : World) (s : ByteArray) : oppRow (Lib.bytesWorld w 5 s) w.heap.size (Lib.bytesCells w 5 s).size (oppL s) := by
 refine ⟨_, Lib.bytesWorld_at_new w _ s, ?_, fun j hj => ?_⟩
 ·rw [oppL_length]
  unfold Lib.bytesCells
  rw [Array.size_append, Array.size_map]
  exact Nat.le_add_right _ _
 ·rw [oppL_length] at hj
  have hj' : j < s.data.size := hj
  unfold Lib.bytesCells
  rw [Array.getElem?_append_left (by simpa using hj')]
  rw [Array.getElem?_map, Array.getElem?_eq_getElem hj', Option.map_some]
  simp only [oppL, List.getD_eq_getElem?_getD, List.getElem?_map, Array.getElem?_toList, Array.getElem?_eq_getElem hj', Option.map_some, Option.getD_some]
theorem opp_below (w : World) (s : ByteArray) : Below w.heap.size w (Lib.bytesWorld w 5 s) := Lib.bytesWorld_below w 5 s
theorem getD_app1 (A B : List Int) (j : Nat) (h : A.length = j) (hB : B ≠ []) : (A ++ B).getD j 0 = B.getD 0 0 := by
 subst h
 rw [List.getD_eq_getElem?_getD, List.getElem?_append_right (Nat.le_refl _), Nat.sub_self, List.getD_eq_getElem?_getD]
set_option maxHeartbeats 8000000 in
set_option maxRecDepth 100000 in
theorem impl_opposite.calls (a0 : ByteArray) (r : ByteArray) (w : World) (h : impl_opposite.f a0 = some r) :
  Calls Tryz.prog 114 #[.string a0] w fun e w' => e = .returned (.string r) ∧ Below w.heap.size w w' := by
 unfold impl_opposite.f at h
 by_cases hb : a0.size < 4611686018427387904
 case neg => rw [if_neg hb] at h; cases h
 rw [if_pos hb] at h
 obtain rfl := Option.some.inj h
 clear h
 have hcv := Lib.run_convert_string_bytes (P := Tryz.prog) w 9 43 5 a0 Tryz.underlying9 Tryz.underlying43 Tryz.underlying5
 have HR := aM_ (opp_new w a0)
 have HB := aM_ (opp_below w a0)
 have HS := aM_ hb
 have HL := aM_ (oppL_length a0)
 clear hb
 go_enter Tryz.func114, Tryz.ntmps114
 go_wp2
 clear hcv
 generalize Lib.bytesWorld w 5 a0 = w1 at HR HB ⊢
 obtain ⟨m, hm⟩ : ∃ m, (Lib.bytesCells w 5 a0).size = m := ⟨_, rfl⟩
 rw [hm] at HR
 clear hm
 generalize grownCap w a0.size 0 5 = cap
 obtain ⟨g1, hg1⟩ : ∃ g1, w.heap.size = g1 := ⟨_, rfl⟩
 have HG := aM_ hg1
 rw [hg1] at HR ⊢
 clear hg1
 go_loopg [4, 5, 10, 16, 21] a0.size (fun gg v4 v5 v10 v16 v21 w' => ∃ (x : Int) (ix : Nat) (xs : List Int), v10 = .int .i64 x ∧ Aside0 (x = (ix : Int)) ∧ Aside0 (gg + ix = a0.size) ∧ Aside0 (xs = ((oppL a0).take ix).map flipI ++ (oppL a0).drop ix) ∧ Aside0 (oppRow w' g1 m xs) ∧ Aside0 (Below w.heap.size w w'))
 case atStart => exact ⟨0, 0, oppL a0, rfl, ⟨rfl⟩, ⟨rfl⟩, ⟨by simp⟩, HR, HB⟩
 case round =>
  clear HR HB
  obtain ⟨x, ix, xs, rfl, HX, HGG, HXS, HR, HB⟩ := hrel
  by_cases c : x < (a0.size : Int)
  ·have c0 : decide (x < (a0.size : Int)) = true := decide_eq_true c
   have hix : ix < a0.size := by have := HX.out; omega
   have hlen : xs.length = a0.size := by rw [HXS.out]; simp [HL.out]; omega
   have hxn : x.toNat = ix := by have := HX.out; omega
   have p1 : (0 ≤ x) = True := eq_true (by have := HX.out; omega)
   have q1 : (x < (a0.size : Int)) = True := eq_true c
   obtain ⟨hx0, hf0⟩ := oppRow_cell HR.out x.toNat (by omega)
   have hv : xs.getD x.toNat 0 = (oppL a0).getD ix 0 := by
    rw [HXS.out, hxn, getD_app1 _ _ ix (by simp [HL.out]; omega) (by intro e; have := congrArg List.length e; simp only [List.length_drop, HL.out, List.length_nil] at this; omega)]
    simp [List.getD_eq_getElem?_getD]
   have hstep : ((oppL a0).take (ix + 1)).map flipI ++ (oppL a0).drop (ix + 1) = xs.set x.toNat (flipI ((oppL a0).getD ix 0)) := by
    have hl : ix < (oppL a0).length := by rw [HL.out]; exact hix
    rw [HXS.out, hxn, List.take_add_one, List.getElem?_eq_getElem hl, List.map_append, List.set_append_right _ _ (by simp; omega), List.drop_eq_getElem_cons hl]
    simp [List.getD_eq_getElem?_getD, hl, Nat.min_eq_left (Nat.le_of_lt hl)]
    rw [List.drop_eq_getElem_cons hl]
    rfl
   have hsame : flipI ((oppL a0).getD ix 0) = (oppL a0).getD ix 0 → xs.set x.toNat (flipI ((oppL a0).getD ix 0)) = xs := by
    intro e
    rw [e, ← hv]
    apply List.ext_getElem?
    intro q
    rw [List.getElem?_set]
    by_cases e : x.toNat = q
    ·subst e; simp [List.getD_eq_getElem?_getD, show x.toNat < xs.length by omega]
    ·rw [if_neg e]
   rw [hv] at hx0
   generalize (oppL a0).getD ix 0 = v at hx0 hstep hsame
   have HST := aM_ hstep
   have HSM := aM_ hsame
   have HIX := aM_ hix
   have HW : wrap64 (x + 1) = ((ix + 1 : Nat) : Int) := by have := HX.out; have := HS.out; unfold wrap64; omega
   have HW := aM_ HW
   clear c hix hlen hxn hv hstep hsame
   by_cases v1 : v = 43
   ·have d1 : decide (v = 43) = true := decide_eq_true v1
    have d1b : (v == 43) = true := beq_iff_eq.2 v1
    have HF := aM_ (show flipI v = 45 by unfold flipI; rw [if_pos v1])
    clear v1
    go_wp2
    go_roundg (gk - 1)
    case measure => have := HGG.out; have := HIX.out; omega
    case rel => exact ⟨wrap64 (x + 1), ix + 1, xs.set x.toNat 45, by first | rfl | (simp; done), HW, ⟨by have := HGG.out; have := HIX.out; omega⟩, ⟨by rw [HST.out, HF.out]⟩, ⟨oppRow_set HR.out _ _⟩, ⟨below_set HB.out (by rw [HG.out]; exact Nat.le_refl _)⟩⟩
   ·have d1 : decide (v = 43) = false := decide_eq_false v1
    have d1b : (v == 43) = false := beq_eq_false_iff_ne.2 v1
    by_cases v2 : v = 45
    ·have d2 : decide (v = 45) = true := decide_eq_true v2
     have d2b : (v == 45) = true := beq_iff_eq.2 v2
     have HF := aM_ (show flipI v = 43 by unfold flipI; rw [if_neg v1, if_pos v2])
     clear v1 v2
     go_wp2
     go_roundg (gk - 1)
     case measure => have := HGG.out; have := HIX.out; omega
     case rel => exact ⟨wrap64 (x + 1), ix + 1, xs.set x.toNat 43, by first | rfl | (simp; done), HW, ⟨by have := HGG.out; have := HIX.out; omega⟩, ⟨by rw [HST.out, HF.out]⟩, ⟨oppRow_set HR.out _ _⟩, ⟨below_set HB.out (by rw [HG.out]; exact Nat.le_refl _)⟩⟩
    ·have d2 : decide (v = 45) = false := decide_eq_false v2
     have d2b : (v == 45) = false := beq_eq_false_iff_ne.2 v2
     have HF := aM_ (show flipI v = v by unfold flipI; rw [if_neg v1, if_neg v2])
     clear v1 v2
     go_wp2
     go_roundg (gk - 1)
     case measure => have := HGG.out; have := HIX.out; omega
     case rel => exact ⟨wrap64 (x + 1), ix + 1, xs, by first | rfl | (simp; done), HW, ⟨by have := HGG.out; have := HIX.out; omega⟩, ⟨by rw [HST.out, HSM.out HF.out]⟩, HR, HB⟩
  ·have c0 : decide (x < (a0.size : Int)) = false := decide_eq_false c
   have HE := aM_ (show ix = a0.size by have := HX.out; have := HGG.out; omega)
   clear c
   have hcv : (convert 43 9 (.slice (some ⟨g1, 0, none⟩) a0.size cap)).run Tryz.prog wr = .ok (.string (oppText a0)) wr := by
    have hl : (a0.data.toList.map flipU).length = a0.size := by rw [List.length_map, Array.length_toList]; rfl
    have := run_convert_bytes_back (P := Tryz.prog) wr 43 9 5 ⟨g1, 0, none⟩ cap (a0.data.toList.map flipU) Tryz.underlying43 Tryz.underlying5 Tryz.underlying9 (fun j hj => by
     have hxs : xs = (oppL a0).map flipI := by rw [HXS.out, HE.out, List.take_of_length_le (by rw [HL.out]; exact Nat.le_refl _), List.drop_of_length_le (by rw [HL.out]; exact Nat.le_refl _), List.append_nil]
     have hj2 : j < a0.size := by omega
     have hj3 : j < a0.data.size := hj2
     obtain ⟨h1, _⟩ := oppRow_cell HR.out j (by rw [hxs, List.length_map, HL.out]; exact hj2)
     rw [show (⟨g1, 0, none⟩ : Addr).add j = ⟨g1, j, none⟩ by (simp [Addr.add]; omega), h1, hxs]
     simp only [oppL, List.getD_eq_getElem?_getD, List.getElem?_map, Array.getElem?_toList, Array.getElem?_eq_getElem hj3, Option.map_some, Option.getD_some, List.getElem_map, Array.getElem_toList, flip_is])
    rw [hl] at this
    exact this
   go_wp2
   go_ret
   exact ⟨rfl, HB.out⟩
end Go.Proofs.YteaagaekdkolnaaGreatDoor.P

namespace Go.Proofs.YteaagaekdkolnaaGreatDoor.P
open Go.RowKit Go.Proofs.YteaagaekdkolnaaGreatDoorW.PrintWords Go.Proofs.YteaagaekdkolnaaGreatDoorW.PrintLast Go.Proofs.YteaagaekdkolnaaGreatDoorW.PrintMore
attribute [local go_sem] max2_int min2_int max_two min_two max_three min_three max_four min_four   -- for this text's walks alone
set_option linter.unusedVariables false
set_option linter.unusedSimpArgs false
/-! ### impl_chi_circuit: function 113 -/
def circI (v : Int) : Int := if v > 0 then 43 else 45
def circL (T : Nat → Int) (a b c d : Int) : List Int := [T (tix b c d), wrap64 (-T (tix a c d)), T (tix a b d), wrap64 (-T (tix a b c))]
def circT (T : Nat → Int) (a b c d : Int) : ByteArray := if T (tix b c d) > 0 then strOfNums ((circL T a b c d).map circI) else oppText (strOfNums ((circL T a b c d).map circI))
def in7 (a : Int) : Prop := 0 ≤ a ∧ a < 7
instance (a : Int) : Decidable (in7 a) := inferInstanceAs (Decidable (_ ∧ _))
def impl_chi_circuit.f (s0_0 : Int) (s0_1 : Nat → Int) (a1 a2 a3 a4 : Int) : Option (ByteArray × Int × (Nat → Int)) := if in7 a1 ∧ in7 a2 ∧ in7 a3 ∧ in7 a4 then some (circT s0_1 a1 a2 a3 a4, s0_0, s0_1) else none
theorem run_event {P : Program} {ops : Array Oper} {o : Oper} {a : Act} {Q : Exit → Act → World → Prop} {W W1 : World} {Kc : Act → World → Prop} {N : Tmp} {v : Value} (hN : o.dst = some N) (hw : Region.wanted o (yielded ops a.tmps) = true) (hrun : (execOp a.eval o).run P W = .ok (.value v) W1)
  (h : Kc (a.put (some N) v) W1) : if Region.wanted o (yielded ops a.tmps) = true then Oper.wp P o a W Kc Q else Kc (a.put (some N) undef) W := by
 rw [if_pos hw]
 unfold Oper.wp
 rw [hrun]
 show Kc (a.put o.dst v) _
 rw [hN]
 exact h
def circT2 : Bool × List (List Nat × List Nat) := (true, [([], []), ([], []), ([], []), ([], []), ([0], [0]), ([4], [4]), ([5, 1], [1, 5]), ([6, 2], [2, 6]), ([7, 3], [3, 7]), ([8], [8]), ([], []), ([], []), ([], []), ([], []), ([10], [10]), ([14], [14]), ([15, 11], [11, 15]), ([16, 12], [12, 16]), ([17, 13], [13, 17]), ([18], [18]), ([19], [19]), ([], []), ([], []), ([], []), ([], []), ([21], [21]), ([25], [25]), ([26, 22], [22, 26]), ([27, 23], [23, 27]), ([28, 24], [24, 28]), ([29], [29]), ([], []), ([], []), ([], []), ([], []), ([31], [31]), ([35], [35]), ([36, 32], [32, 36]), ([37, 33], [33, 37]), ([38, 34], [34, 38]), ([39], [39]), ([40], [40]), ([9, 20, 30, 41], [9, 20, 30, 41]), ([42], [42]), ([], [])])
def circB2 : List Nat := [0, 0, 0, 0, 1, 17, 51, 119, 255, 511, 0, 0, 0, 0, 1024, 17408, 52224, 121856, 261120, 523264, 1047552, 0, 0, 0, 0, 2097152, 35651584, 106954752, 249561088, 534773760, 1071644672, 0, 0, 0, 0, 2147483648, 36507222016, 109521666048, 255550554112, 547608330240, 1097364144128, 2196875771904, 4398046511103, 8796093022207, 0]
theorem circ_tab2 : rtab .any (opsOf Tryz.f113 2) = circT2 := by kernel_rfl
theorem circ_bits2 : waitsOk circT2.2 circB2 = true := by kernel_rfl
theorem cell_keep {w w1 : World} {p : Addr} {v : Value} (hb : Below w.heap.size w w1) (h : w.cell? p = some v) : w1.cell? p = some v := (hb.cell (World.block_lt_of_cell? _ _ h)).trans h
set_option maxHeartbeats 8000000 in
set_option maxRecDepth 100000 in
theorem impl_chi_circuit.calls (g : Nat) (s0_0 : Int) (s0_1 : Nat → Int) (a1 a2 a3 a4 : Int) (r1 : ByteArray) (r2 : Int) (r3 : Nat → Int) (w0 w : World) (hI : IsS96 w0 w g s0_0 s0_1) (hB : Below w0.heap.size w0 w) (h : impl_chi_circuit.f s0_0 s0_1 a1 a2 a3 a4 = some (r1, r2, r3)) :
  Calls Tryz.prog 113 #[.pointer (some ⟨g, 0, none⟩), .int .i64 a1, .int .i64 a2, .int .i64 a3, .int .i64 a4] w fun e w' => e = .returned (.string r1) ∧ IsS96 w0 w' g r2 r3 ∧ Below w0.heap.size w0 w' ∧ KeepBut w w' g none := by
 unfold impl_chi_circuit.f at h
 by_cases hc : in7 a1 ∧ in7 a2 ∧ in7 a3 ∧ in7 a4
 case neg => rw [if_neg hc] at h; cases h
 rw [if_pos hc] at h
 simp only [Option.some.injEq, Prod.mk.injEq] at h
 obtain ⟨rfl, rfl, rfl⟩ := h
 obtain ⟨h1, h2, h3, h4⟩ := hc
 suffices hs : Calls Tryz.prog 113 #[.pointer (some ⟨g, 0, none⟩), .int .i64 a1, .int .i64 a2, .int .i64 a3, .int .i64 a4] w fun e w' => e = .returned (.string (circT s0_1 a1 a2 a3 a4)) ∧ Below w.heap.size w w' by
  refine hs.mono ?_
  rintro e w' ⟨he, hb⟩
  exact ⟨he, hI.below hb, below_step hB hb, KeepBut.of_below hb g none⟩
 have hat := chi_at7 hI
 have k0 := hat a2 a3 a4 h2 h3 h4
 have k1 := hat a1 a3 a4 h1 h3 h4
 have k2 := hat a1 a2 a4 h1 h2 h4
 have k3 := hat a1 a2 a3 h1 h2 h3
 have hr : circT s0_1 a1 a2 a3 a4 = if s0_1 (a2.toNat * 49 + a3.toNat * 7 + a4.toNat) > 0 then strOfNums ([s0_1 (a2.toNat * 49 + a3.toNat * 7 + a4.toNat), wrap64 (-s0_1 (a1.toNat * 49 + a3.toNat * 7 + a4.toNat)), s0_1 (a1.toNat * 49 + a2.toNat * 7 + a4.toNat), wrap64 (-s0_1 (a1.toNat * 49 + a2.toNat * 7 + a3.toNat))].map circI) else oppText (strOfNums ([s0_1 (a2.toNat * 49 + a3.toNat * 7 + a4.toNat), wrap64 (-s0_1 (a1.toNat * 49 + a3.toNat * 7 + a4.toNat)), s0_1 (a1.toNat * 49 + a2.toNat * 7 + a4.toNat), wrap64 (-s0_1 (a1.toNat * 49 + a2.toNat * 7 + a3.toNat))].map circI)) := rfl
 rw [hr]
 generalize s0_1 (a2.toNat * 49 + a3.toNat * 7 + a4.toNat) = v0 at k0 ⊢
 generalize s0_1 (a1.toNat * 49 + a3.toNat * 7 + a4.toNat) = v1 at k1 ⊢
 generalize s0_1 (a1.toNat * 49 + a2.toNat * 7 + a4.toNat) = v2 at k2 ⊢
 generalize s0_1 (a1.toNat * 49 + a2.toNat * 7 + a3.toNat) = v3 at k3 ⊢
 obtain ⟨R, hR⟩ : ∃ R, (if v0 > 0 then strOfNums ([v0, wrap64 (-v1), v2, wrap64 (-v3)].map circI) else oppText (strOfNums ([v0, wrap64 (-v1), v2, wrap64 (-v3)].map circI))) = R := ⟨_, rfl⟩
 rw [hR]
 have HRES := aM_ hR
 clear hR
 have I58a := chi_ix58 g a1 h1
 have I58b := chi_ix58 g a2 h2
 have I57b := chi_ix57 g a2 h2
 have I57c := chi_ix57 g a3 h3
 have I56c := chi_ix56 g a3 h3
 have I56d := chi_ix56 g a4 h4
 have HK0 := aM_ k0
 have HK1 := aM_ k1
 have HK2 := aM_ k2
 have HK3 := aM_ k3
 have HB := aM_ (Below.refl w.heap.size w)
 clear hat k0 k1 k2 k3 hI hB hr h1 h2 h3 h4
 go_enter Tryz.func113, Tryz.ntmps113
 go_wp2_with fail
 refine start_ (n := 45) (S := fun w' => w'.cell? ⟨g, 1 + a2.toNat * 49 + a3.toNat * 7 + a4.toNat, none⟩ = some (.int .i64 v0) ∧ w'.cell? ⟨g, 1 + a1.toNat * 49 + a3.toNat * 7 + a4.toNat, none⟩ = some (.int .i64 v1) ∧ w'.cell? ⟨g, 1 + a1.toNat * 49 + a2.toNat * 7 + a4.toNat, none⟩ = some (.int .i64 v2) ∧ w'.cell? ⟨g, 1 + a1.toNat * 49 + a2.toNat * 7 + a3.toNat, none⟩ = some (.int .i64 v3)) (ds := []) (bm 45 0) (by kernel_rfl) rfl rfl ⟨HK0.out, HK1.out, HK2.out, HK3.out⟩ (fun hHeld => ?_); refine with_tabW circ_tab2 circ_bits2 (fun HT_ HW_ => ?_)
 have HB := aM_ (bD_ HB.out)
 have HK0 := aM_ (show w.drew.cell? ⟨g, 1 + a2.toNat * 49 + a3.toNat * 7 + a4.toNat, none⟩ = some (.int .i64 v0) from HK0.out)
 have HK1 := aM_ (show w.drew.cell? ⟨g, 1 + a1.toNat * 49 + a3.toNat * 7 + a4.toNat, none⟩ = some (.int .i64 v1) from HK1.out)
 have HK2 := aM_ (show w.drew.cell? ⟨g, 1 + a1.toNat * 49 + a2.toNat * 7 + a4.toNat, none⟩ = some (.int .i64 v2) from HK2.out)
 have HK3 := aM_ (show w.drew.cell? ⟨g, 1 + a1.toNat * 49 + a2.toNat * 7 + a3.toNat, none⟩ = some (.int .i64 v3) from HK3.out)
 generalize w.drew = wB at HB HK0 HK1 HK2 HK3 hHeld ⊢
 refine plan_ ((0, 0, 14, 1) :: (0, 1, 15, 3) :: (0, 2, 16, 7) :: (0, 3, 17, 15) :: (0, 4, 18, 31) :: (0, 5, 19, 63) :: (0, 6, 20, 127) :: (0, 7, 21, 255) :: (0, 8, 22, 511) :: (2, 9, 23, 1023) :: (0, 10, 24, 2047) :: (0, 11, 25, 4095) :: (0, 12, 26, 8191) :: (0, 13, 27, 16383) :: (0, 14, 28, 32767) :: (0, 15, 29, 65535) :: (0, 16, 30, 131071) :: (0, 17, 31, 262143) :: (0, 18, 32, 524287) :: (2, 19, 33, 1048575) :: (0, 20, 34, 2097151) :: (0, 21, 35, 4194303) :: (0, 22, 36, 8388607) :: (0, 23, 37, 16777215) :: (0, 24, 38, 33554431) :: (0, 25, 39, 67108863) :: (0, 26, 40, 134217727) :: (0, 27, 41, 268435455) :: (0, 28, 42, 536870911) :: (0, 29, 43, 1073741823) :: (2, 30, 44, 2147483647) :: (0, 31, 45, 4294967295) :: (0, 32, 46, 8589934591) :: (0, 33, 47, 17179869183) :: (0, 34, 48, 34359738367) :: (0, 35, 49, 68719476735) :: (0, 36, 50, 137438953471) :: (0, 37, 51, 274877906943) :: (0, 38, 52, 549755813887) :: (0, 39, 53, 1099511627775) :: (2, 40, 54, 2199023255551) :: (0, 41, 55, 4398046511103) :: (0, 44, 58, 21990232555519) :: []) ?_
 iterate 43 (first | (refine planV_ ?_ ?_ rfl rfl (any_of HT_.out (by kernel_rfl)) (fun _ _ _ h => h) (Or.inl ⟨by rfl, ?_⟩) ?_ ?_; rotate_left 2; (· intro w'; go_simp; with_reducible rfl); (· simp only [Act.put, List.setIfInBounds_toArray, List.set_cons_zero, List.set_cons_succ, i64_w, i32_w]; rfl)) | (refine planT_ ?_ ?_ rfl rfl (take_ofW HT_.out HW_.out (by kernel_rfl)) (fun _ _ _ h => h) (Or.inl ⟨by rfl, ?_⟩) hHeld ?_ ?_; rotate_left 2; (· rintro w' ⟨s0, s1, s2, s3⟩; go_simp; with_reducible rfl); (· simp only [Act.put, List.setIfInBounds_toArray, List.set_cons_zero, List.set_cons_succ, i64_w, i32_w]; rfl)))
 refine planEnd_ ?_
 refine one_ (i := 42) (N := some 56) (bm 45 26388279066623) rfl rfl (one_of HT_.out (by kernel_rfl)) (by decide) (fun K hK => ?_)
 refine run_event (v := .slice (some ⟨wB.heap.size, 0, none⟩) 4 4) (W1 := wB.alloc (.cells #[.int .i64 v0, .int .i64 (wrap64 (-v1)), .int .i64 v2, .int .i64 (wrap64 (-v3))] 3 (0, 0))) rfl (by rfl) (by first | (go_simp; done) | (go_simp; rfl)) ?_
 have hba := bA_ (Below.refl wB.heap.size wB) (.cells #[.int .i64 v0, .int .i64 (wrap64 (-v1)), .int .i64 v2, .int .i64 (wrap64 (-v3))] 3 (0, 0))
 have BKN := aM_ (blk_new wB (.cells #[.int .i64 v0, .int .i64 (wrap64 (-v1)), .int .i64 v2, .int .i64 (wrap64 (-v3))] 3 (0, 0)))
 have HB := aM_ (below_step HB.out hba)
 have hs_ : (wB.alloc (.cells #[.int .i64 v0, .int .i64 (wrap64 (-v1)), .int .i64 v2, .int .i64 (wrap64 (-v3))] 3 (0, 0))).cell? ⟨g, 1 + a2.toNat * 49 + a3.toNat * 7 + a4.toNat, none⟩ = some (.int .i64 v0) ∧ (wB.alloc (.cells #[.int .i64 v0, .int .i64 (wrap64 (-v1)), .int .i64 v2, .int .i64 (wrap64 (-v3))] 3 (0, 0))).cell? ⟨g, 1 + a1.toNat * 49 + a3.toNat * 7 + a4.toNat, none⟩ = some (.int .i64 v1) ∧ (wB.alloc (.cells #[.int .i64 v0, .int .i64 (wrap64 (-v1)), .int .i64 v2, .int .i64 (wrap64 (-v3))] 3 (0, 0))).cell? ⟨g, 1 + a1.toNat * 49 + a2.toNat * 7 + a4.toNat, none⟩ = some (.int .i64 v2) ∧ (wB.alloc (.cells #[.int .i64 v0, .int .i64 (wrap64 (-v1)), .int .i64 v2, .int .i64 (wrap64 (-v3))] 3 (0, 0))).cell? ⟨g, 1 + a1.toNat * 49 + a2.toNat * 7 + a3.toNat, none⟩ = some (.int .i64 v3) := ⟨cell_keep hba HK0.out, cell_keep hba HK1.out, cell_keep hba HK2.out, cell_keep hba HK3.out⟩
 refine hK.out _ _ hs_ (fun hHeld => ?_)
 clear hK K hs_ hba HK0 HK1 HK2 HK3
 obtain ⟨gN, hgN⟩ : ∃ gN, wB.heap.size = gN := ⟨_, rfl⟩
 rw [hgN] at BKN ⊢
 generalize wB.alloc (.cells #[.int .i64 v0, .int .i64 (wrap64 (-v1)), .int .i64 v2, .int .i64 (wrap64 (-v3))] 3 (0, 0)) = wC at HB BKN hHeld ⊢
 clear hgN
 refine plan_ ((0, 43, 57, 35184372088831) :: []) ?_
 iterate 1 (refine planV_ ?_ ?_ rfl rfl (any_of HT_.out (by kernel_rfl)) (fun _ _ _ h => h) (Or.inl ⟨by rfl, ?_⟩) ?_ ?_; rotate_left 2; (· intro w'; go_simp; with_reducible rfl); (· simp only [Act.put, List.setIfInBounds_toArray, List.set_cons_zero, List.set_cons_succ, i64_w, i32_w]; rfl))
 refine planEnd_ ?_
 refine done_ (done_of HT_.out (by kernel_rfl)) ?_
 clear HT_ HW_ hHeld I58a I58b I57b I57c I56c I56d
 go_wp2
 go_loopg [11, 58] 4 (fun kq v11 v58 w' => ∃ (x : Int) (ix : Nat) (tx : List Int), v58 = .int .i64 x ∧ Aside0 (x = (ix : Int)) ∧ Aside0 (kq + ix = 4) ∧ Aside0 (tx = ([v0, wrap64 (-v1), v2, wrap64 (-v3)].take ix).map circI) ∧ Aside0 (w'.heap[gN]? = some (.cells #[.int .i64 v0, .int .i64 (wrap64 (-v1)), .int .i64 v2, .int .i64 (wrap64 (-v3))] 3 (0, 0))) ∧ Aside0 (Kd.R (Kd.int .u8) 5 w' w.heap.size (fun _ => True) v11 tx) ∧ Aside0 (Below w.heap.size w w'))
 case atStart => exact ⟨0, 0, [], rfl, ⟨rfl⟩, ⟨rfl⟩, ⟨rfl⟩, BKN, ⟨Kd.R_nil _ _ _ _ _⟩, HB⟩
 case round =>
  clear BKN HB
  obtain ⟨x, ix, tx, rfl, HX, HK1, HT, BKN, HO_11, HB⟩ := hrel
  by_cases c5 : x < 4
  ·have c5b0 : decide (x < 4) = true := decide_eq_true c5
   have hx := HX.out
   have hix : ix < 4 := by omega
   have hxn : x.toNat = ix := by omega
   have p1 : (0 ≤ x) = True := eq_true (by omega)
   have q1 : (x < 4) = True := eq_true c5
   have hcs : ∀ q : Nat, q < 4 → (#[.int .i64 v0, .int .i64 (wrap64 (-v1)), .int .i64 v2, .int .i64 (wrap64 (-v3))] : Array Value)[q]? = some (.int .i64 ([v0, wrap64 (-v1), v2, wrap64 (-v3)].getD q 0)) := by
    intro q hq
    have : q = 0 ∨ q = 1 ∨ q = 2 ∨ q = 3 := by omega
    rcases this with rfl | rfl | rfl | rfl <;> rfl
   have hst : ∀ q : Nat, q < 4 → ([v0, wrap64 (-v1), v2, wrap64 (-v3)].take (q + 1)).map circI = ([v0, wrap64 (-v1), v2, wrap64 (-v3)].take q).map circI ++ [circI ([v0, wrap64 (-v1), v2, wrap64 (-v3)].getD q 0)] := by
    intro q hq
    have : q = 0 ∨ q = 1 ∨ q = 2 ∨ q = 3 := by omega
    rcases this with rfl | rfl | rfl | rfl <;> rfl
   have hx0 := (blk_cell BKN.out x.toNat).trans (hcs x.toNat (by omega))
   have hf0 := blk_frozen BKN.out x.toNat
   have hs1 := hst ix hix
   rw [hxn] at hx0
   generalize ([v0, wrap64 (-v1), v2, wrap64 (-v3)] : List Int).getD ix 0 = v at hx0 hs1
   rw [← hxn] at hx0
   have HST := aM_ hs1
   have HIX := aM_ hix
   have HLT := aM_ (show tx.length ≤ 4 by rw [HT.out]; simp; omega)
   have HW : wrap64 (x + 1) = ((ix + 1 : Nat) : Int) := by unfold wrap64; omega
   have HW := aM_ HW
   clear c5 hx hix hxn hcs hst hs1
   by_cases cv : v > 0
   ·have HQ := aM_ (show circI v = 43 by unfold circI; rw [if_pos cv])
    have cvb : decide (0 < v) = true := decide_eq_true cv
    clear cv
    go_wp2_with ((with_reducible refine gate_builtin (b := .append) (xs := #[.tmp 64, .tmp 65]) rfl ?_); at_builtin; refine Kd.R_append (Kd.int .u8) (w0 := w) w.heap.size rfl (.tmp 64) (.tmp 65) 43 5 (.int .u8 0) 1 rfl Tryz.underlying43 chi_info5 rfl (by decide) (by omega) u11 tx 43 [.int .u8 43] (fun _ => True) (fun _ => False) rfl rfl ?aP (fun _ hk => hk.elim) ?aF ?aO ?aB ?aS ?aL ?_; (case aP => exact rfl); (case aB => exact (by repeat (first | (with_reducible first | exact HB.out | apply bA_ | apply bN_ | apply bD_) | exact HB.out))); (case aF => exact (fun _ _ => trivial)); (case aO => exact (by (with_reducible repeat (first | apply kA_ | apply kN_ | apply kD_)); exact HO_11.out)); (case aS => exact (below_size (by repeat (first | (with_reducible first | exact HB.out | apply bA_ | apply bN_ | apply bD_) | exact HB.out)))); (case aL => have h1 := HLT.out; omega); intro v102 w7 ho hb hg hat; have n1_ := aM_ (blk_grown (g := gN) (o := .cells #[.int .i64 v0, .int .i64 (wrap64 (-v1)), .int .i64 v2, .int .i64 (wrap64 (-v3))] 3 (0, 0)) (by (with_reducible repeat (first | refine blk_drewN ?_ _ | refine blk_drew ?_ | refine blk_alloc ?_ _)); exact BKN.out) hg (Kd.R_ne HO_11.out BKN.out (by decide))); have n2_ := aM_ (hb); have n3_ := aM_ (ho); clear BKN; clear HB; clear HO_11; have BKN := n1_; have HB := n2_; have HO_11 := n3_; clear n1_ n2_ n3_; clear ho hb hg hat)
    go_roundg (gk - 1)
    case measure => have := HK1.out; have := HIX.out; omega
    case rel => exact ⟨wrap64 (x + 1), ix + 1, tx ++ [43], (by first | rfl | (simp; done) | (rw [HW.out]; first | rfl | (simp; done))), ⟨HW.out⟩, ⟨by have := HK1.out; have := HIX.out; omega⟩, ⟨by rw [HST.out, HT.out, HQ.out]⟩, ⟨BKN.out⟩, ⟨HO_11.out⟩, ⟨HB.out⟩⟩
   ·have HQ := aM_ (show circI v = 45 by unfold circI; rw [if_neg cv])
    have cvb : decide (0 < v) = false := decide_eq_false cv
    clear cv
    go_wp2_with ((with_reducible refine gate_builtin (b := .append) (xs := #[.tmp 67, .tmp 68]) rfl ?_); at_builtin; refine Kd.R_append (Kd.int .u8) (w0 := w) w.heap.size rfl (.tmp 67) (.tmp 68) 43 5 (.int .u8 0) 1 rfl Tryz.underlying43 chi_info5 rfl (by decide) (by omega) u11 tx 45 [.int .u8 45] (fun _ => True) (fun _ => False) rfl rfl ?aP (fun _ hk => hk.elim) ?aF ?aO ?aB ?aS ?aL ?_; (case aP => exact rfl); (case aB => exact (by repeat (first | (with_reducible first | exact HB.out | apply bA_ | apply bN_ | apply bD_) | exact HB.out))); (case aF => exact (fun _ _ => trivial)); (case aO => exact (by (with_reducible repeat (first | apply kA_ | apply kN_ | apply kD_)); exact HO_11.out)); (case aS => exact (below_size (by repeat (first | (with_reducible first | exact HB.out | apply bA_ | apply bN_ | apply bD_) | exact HB.out)))); (case aL => have h1 := HLT.out; omega); intro v102 w7 ho hb hg hat; have n1_ := aM_ (blk_grown (g := gN) (o := .cells #[.int .i64 v0, .int .i64 (wrap64 (-v1)), .int .i64 v2, .int .i64 (wrap64 (-v3))] 3 (0, 0)) (by (with_reducible repeat (first | refine blk_drewN ?_ _ | refine blk_drew ?_ | refine blk_alloc ?_ _)); exact BKN.out) hg (Kd.R_ne HO_11.out BKN.out (by decide))); have n2_ := aM_ (hb); have n3_ := aM_ (ho); clear BKN; clear HB; clear HO_11; have BKN := n1_; have HB := n2_; have HO_11 := n3_; clear n1_ n2_ n3_; clear ho hb hg hat)
    go_roundg (gk - 1)
    case measure => have := HK1.out; have := HIX.out; omega
    case rel => exact ⟨wrap64 (x + 1), ix + 1, tx ++ [45], (by first | rfl | (simp; done) | (rw [HW.out]; first | rfl | (simp; done))), ⟨HW.out⟩, ⟨by have := HK1.out; have := HIX.out; omega⟩, ⟨by rw [HST.out, HT.out, HQ.out]⟩, ⟨BKN.out⟩, ⟨HO_11.out⟩, ⟨HB.out⟩⟩
  ·have c5b0 : decide (x < 4) = false := decide_eq_false c5
   have hE : ix = 4 := by have := HK1.out; have := HX.out; omega
   have htx : tx = [v0, wrap64 (-v1), v2, wrap64 (-v3)].map circI := by rw [HT.out, hE]; rfl
   have hcv : ∀ w' : World, Kd.R (Kd.int .u8) 5 w' w.heap.size (fun _ => True) u11 tx → (convert 43 9 u11).run Tryz.prog w' = .ok (.string (strOfNums tx)) w' := fun w' h => own_string (P := Tryz.prog) Tryz.underlying43 Tryz.underlying5 Tryz.underlying9 (Kd.own_of_R h)
   have hcv1 := hcv _ HO_11.out
   obtain ⟨Ao, co, eo⟩ := Kd.R_slice HO_11.out
   subst eo
   have hl4 : tx.length = 4 := by rw [htx]; rfl
   obtain ⟨ad, e0, hx0⟩ := Kd.at_int (Kd.R_reads' HO_11.out).2.2 0 (Int.le_refl 0) (by rw [hl4]; decide)
   cases e0
   have q1 : ((0 : Int) < (tx.length : Int)) = True := eq_true (by rw [hl4]; decide)
   have q2 : (0 < tx.length) = True := eq_true (by rw [hl4]; decide)
   have hop : impl_opposite.f (strOfNums tx) = some (oppText (strOfNums tx)) := by
    unfold impl_opposite.f
    rw [if_pos (by rw [htx]; simp [strOfNums, ByteArray.size])]
   have HOP := aM_ hop
   have HTX := aM_ htx
   have hrd : rd tx 0 = circI v0 := by rw [htx]; rfl
   rw [hrd, show ad.add (Int.toNat 0) = ad by simp [Addr.add]] at hx0
   clear c5 hE htx hl4 hcv hop hrd HT HK1 HX
   by_cases cv : v0 > 0
   ·rw [show circI v0 = 43 by unfold circI; rw [if_pos cv]] at hx0
    have HQ := aM_ (show R = strOfNums tx by rw [← HRES.out, if_pos cv, HTX.out])
    clear cv
    go_wp2
    first | go_ret | go_ret2 | go_end0
    exact ⟨by rw [HQ.out]; rfl, HB.out⟩
   ·rw [show circI v0 = 45 by unfold circI; rw [if_neg cv]] at hx0
    have HQ := aM_ (show R = oppText (strOfNums tx) by rw [← HRES.out, if_neg cv, HTX.out])
    clear cv
    go_wp2_with (go_at_call 114; refine (impl_opposite.calls (strOfNums tx) _ _ HOP.out).mono ?_; rintro e w9 ⟨rfl, hb9⟩)
    first | go_ret | go_ret2 | go_end0
    exact ⟨by rw [HQ.out]; rfl, below_step HB.out hb9⟩
end Go.Proofs.YteaagaekdkolnaaGreatDoor.P

namespace Go.Proofs.YteaagaekdkolnaaGreatDoor.P
open Go.RowKit Go.Proofs.YteaagaekdkolnaaGreatDoorW.PrintWords Go.Proofs.YteaagaekdkolnaaGreatDoorW.PrintLast Go.Proofs.YteaagaekdkolnaaGreatDoorW.PrintMore
attribute [local go_sem] max2_int min2_int max_two min_two max_three min_three max_four min_four   -- for this text's walks alone
set_option linter.unusedVariables false
set_option linter.unusedSimpArgs false
/-! ### impl_chi_split: function 111 -/
def impl_chi_split.l0 : Nat → ByteArray → Int → Int → List Int → Int → Int → Int → (Nat → Int) → Option (Int × Int × Int × (Nat → Int))
 | 0, _, _, _, _, _, _, _, _ => none
 | k + 1, x12, x13, x14, x27, x28, x29, x1000, x1001 => if x29 < x28 then (if 0 ≤ x29 then (if x29 < (x27.length : Int) then (if x29 < (x12.size : Int) then (if (bt x12 x29) = 43 then (if 0 ≤ (rd x27 x29) then (impl_chi_split.l0 k x12 (Go.bits .or .i64 x13 (shl .i64 1 (rd x27 x29))) x14 x27 x28 (wrap64 (x29 + 1)) x1000 x1001) else (none)) else (if 0 ≤ (rd x27 x29) then (impl_chi_split.l0 k x12 x13 (Go.bits .or .i64 x14 (shl .i64 1 (rd x27 x29))) x27 x28 (wrap64 (x29 + 1)) x1000 x1001) else (none))) else (none)) else (none)) else (none)) else (some (x13, x14, x1000, x1001))
def impl_chi_split.f (k : Nat) (s0_0 : Int) (s0_1 : (Nat → Int)) (a1 : Int) (a2 : Int) (a3 : Int) (a4 : Int) : Option (Int × Int × Int × (Nat → Int)) := (impl_chi_circuit.f s0_0 s0_1 a1 a2 a3 a4).bind fun bt101 => ((some (([a1, a2, a3, a4] : List Int) : List Int)).bind fun y104 => (impl_chi_split.l0 k bt101.1 0 0 y104 (y104.length : Int) 0 bt101.2.1 bt101.2.2))
theorem impl_chi_split.mono_l : ∀ k, (∀ y0 y1 y2 y3 y4 y5 y6 y7, LeO (impl_chi_split.l0 k y0 y1 y2 y3 y4 y5 y6 y7) (impl_chi_split.l0 (k + 1) y0 y1 y2 y3 y4 y5 y6 y7))
 | 0 => fun _ _ _ _ _ _ _ _ r h => by simp [impl_chi_split.l0] at h
 | k + 1 => by
  have ih0 := impl_chi_split.mono_l k
  (intros; unfold impl_chi_split.l0; repeat' (with_reducible first | exact ih0 _ _ _ _ _ _ _ _ | exact LeO.refl _ | exact LeO.none _ | refine LeO.ite ?_ ?_ | refine LeO.bind ?_ (fun _ => ?_)))
theorem impl_chi_split.mono : ∀ a0 a1 a2 a3 a4 a5 k, LeO (impl_chi_split.f k a0 a1 a2 a3 a4 a5) (impl_chi_split.f (k + 1) a0 a1 a2 a3 a4 a5) := by
 intro a0 a1 a2 a3 a4 a5 k
 have ih0 := impl_chi_split.mono_l k
 unfold impl_chi_split.f
 repeat' first
   | (with_reducible exact ih0 _ _ _ _ _ _ _ _)
   | (with_reducible exact LeO.refl _)
   | (with_reducible exact LeO.none _)
   | (with_reducible refine LeO.ite ?_ ?_)
   | (with_reducible refine LeO.bind ?_ (fun _ => ?_))
set_option maxHeartbeats 8000000 in
set_option maxRecDepth 100000 in
theorem impl_chi_split.calls (k : Nat) (g : Nat) (s0_0 : Int) (s0_1 : (Nat → Int)) (a1 : Int) (a2 : Int) (a3 : Int) (a4 : Int) (r1 : Int) (r2 : Int) (r3 : Int) (r4 : (Nat → Int)) (w0 w : World) (hI : IsS96 w0 w g s0_0 s0_1) (hB : Below w0.heap.size w0 w) (h : impl_chi_split.f k s0_0 s0_1 a1 a2 a3 a4 = some (r1, r2, r3, r4)) :
  Calls Tryz.prog 111 #[.pointer (some ⟨g, 0, none⟩), .int .i64 a1, .int .i64 a2, .int .i64 a3, .int .i64 a4] w fun e w' => e = .returned (.tuple #[.int .i64 r1, .int .i64 r2]) ∧ IsS96 w0 w' g r3 r4 ∧ Below w0.heap.size w0 w' ∧ KeepBut w w' g none := by
 have HI0 := aM_ hI
 have HK := aM_ (KeepBut.refl w g none)
 have HL := aM_ hB.size
 clear hI
 have HW0 := aM_ hB.size
 have HB := aM_ hB
 clear hB
 have H : ((impl_chi_circuit.f s0_0 s0_1 a1 a2 a3 a4).bind fun bt101 => ((some (([a1, a2, a3, a4] : List Int) : List Int)).bind fun y104 => (impl_chi_split.l0 k bt101.1 0 0 y104 (y104.length : Int) 0 bt101.2.1 bt101.2.2))) = some (r1, r2, r3, r4) := h
 clear h
 replace H := oB_ H
 obtain ⟨⟨t101, t102, t103⟩, A60, H⟩ := H
 replace H : ((some (([a1, a2, a3, a4] : List Int) : List Int)).bind fun y104 => (impl_chi_split.l0 k t101 0 0 y104 (y104.length : Int) 0 t102 t103)) = some (r1, r2, r3, r4) := H
 have A6 := aM_ A60
 clear A60
 obtain ⟨y104, hy104⟩ : ∃ y_ : List Int, y_ = (([a1, a2, a3, a4] : List Int)) := ⟨_, rfl⟩
 replace H : (impl_chi_split.l0 k t101 0 0 y104 (y104.length : Int) 0 t102 t103) = some (r1, r2, r3, r4) := by first | (rw [hy104]; with_reducible exact H) | (have H2_ := (Option.bind_some _ _).symm.trans H; rw [hy104]; with_reducible exact H2_) | (have H2_ := (Option.bind_some _ _).symm.trans H; with_reducible exact H2_) | with_reducible exact H | (rw [hy104]; exact H) | exact H
 have Ny104 := aM_ hy104
 clear hy104
 have H' := aM_ H
 clear H
 go_enter Tryz.func111, Tryz.ntmps111
 go_wp2_with (first | ((with_reducible refine gate_callee (f := 113) rfl ?_); refine goesM_ (some 22) Tryz.func113 #[.pointer (some ⟨g, 0, none⟩), .int .i64 a1, .int .i64 a2, .int .i64 a3, .int .i64 a4] ?_; (with_reducible refine (impl_chi_circuit.calls g s0_0 s0_1 a1 a2 a3 a4 t101 t102 t103 w0 _ ?side1 ?side2 A6.out).mono ?_); (case side1 => repeat (first | (with_reducible first | exact HI0.out | apply IsS96.alloc | apply IsS96.drewN | apply IsS96.drew | apply IsS96.set_0 | apply IsS96.set_1) | exact HI0.out)); (case side2 => repeat (first | (with_reducible first | exact HB.out | apply bA_ | apply bN_ | apply bD_ | refine below_set ?_ (IsS96.ge HI0.out)) | exact HB.out)); rintro e w7 ⟨rfl, hi, hb, hk⟩; refine ⟨_, rfl, ?_⟩; replace HK := aM_ (KeepBut.trans (kp_ HK) hk (.inl rfl)); replace HB := aM_ (hb); replace HI0 := aM_ (hi); (try clear hb); (try clear hk); (try clear hi)) | ((with_reducible refine gate_dst (N := 27) rfl ?_); refine Kd.R_lit (Kd.int .i64) _ 3 ?hg (N := 27) ?hd (xs := ([a1, a2, a3, a4] : List Int)) (inner := [.int .i64 a1, .int .i64 a2, .int .i64 a3, .int .i64 a4]) (ok := fun _ => True) (okp := fun _ => True) ?hr ?hp (fun _ hk => hk) trivial (Below.refl _ _) (Nat.le_refl _) (by simp) ?_; (case hd => rfl); (case hg => rfl); (case hr => first | (go_simp; done) | (go_simp; rfl)); (case hp => exact (Reps.one (show Kd.M (Kd.int .i64) _ _ _ a1 [.int .i64 a1] from rfl) (Reps.one (show Kd.M (Kd.int .i64) _ _ _ a2 [.int .i64 a2] from rfl) (Reps.one (show Kd.M (Kd.int .i64) _ _ _ a3 [.int .i64 a3] from rfl) (Reps.one (show Kd.M (Kd.int .i64) _ _ _ a4 [.int .i64 a4] from rfl) (Reps.none _ _)))))); intro v105 w8 ho9 hb hg_ hnew_; clear hg_ hnew_; (first | rw [← Ny104.out] at ho9 | (simp only [Int.reduceToNat] at ho9; rw [← Ny104.out] at ho9)); have HO106 := aM_ (Kd.R_lower ho9 (keep_size (w := w) (g := g) (row := none) (kp_ HK))); replace HK := aM_ (KeepBut.trans (kp_ HK) (KeepBut.of_below hb g none) (.inl rfl)); replace HB := aM_ (below_step (bI_ HB (IsS96.ge HI0.out)) hb); replace HI0 := aM_ (IsS96.below (by repeat (first | (with_reducible first | exact HI0.out | apply IsS96.alloc | apply IsS96.drewN | apply IsS96.drew | apply IsS96.set_0 | apply IsS96.set_1) | exact HI0.out)) hb); clear hb ho9; obtain ⟨Ao10, co10, eo10⟩ := Kd.R_slice HO106.out; subst eo10))
 go_loopg [13, 14, 29] k (fun kq v13 v14 v29 w' => ∃ (x13_1 : Int) (x14_1 : Int) (x29_1 : Int), v13 = .int .i64 x13_1 ∧ v14 = .int .i64 x14_1 ∧ v29 = .int .i64 x29_1 ∧ Aside0 (impl_chi_split.l0 kq t101 x13_1 x14_1 y104 (y104.length : Int) x29_1 t102 t103 = some (r1, r2, r3, r4)) ∧ Aside0 (kq ≤ k) ∧ Aside0 (Kd.R (Kd.int .i64) 3 w' w.heap.size (fun _ => True) (.slice Ao10 y104.length co10) y104) ∧ Aside0 (IsS96 w0 w' g t102 t103) ∧ Aside0 (KeepBut w w' g none) ∧ Aside0 (Below w0.heap.size w0 w'))
 case atStart => exact ⟨(0), (0), (0), veq_, veq_, veq_, H', ⟨Nat.le_refl _⟩, ⟨kr_ HO106⟩, ⟨by repeat (first | (with_reducible first | exact HI0.out | apply IsS96.alloc | apply IsS96.drewN | apply IsS96.drew | apply IsS96.set_0 | apply IsS96.set_1) | exact HI0.out)⟩, ⟨kp_ HK⟩, ⟨bI_ HB (IsS96.ge HI0.out)⟩⟩
 case round =>
  clear H'
  obtain ⟨x13_1, x14_1, x29_1, rfl, rfl, rfl, HA, HK1, HO_27, HI0, HK, HB⟩ := hrel
  cases gk with
  | zero => exact absurd HA.out (by simp [impl_chi_split.l0])
  | succ k1 =>
   have H := HA.out
   clear HA
   simp only [impl_chi_split.l0] at H
   rcases ifd_ H with ⟨c11b0, H⟩ | ⟨c11b0, H⟩
   ·obtain ⟨c12b0, H⟩ := ifn_ H
    obtain ⟨c13b0, H⟩ := ifn_ H
    obtain ⟨c14b0, H⟩ := ifn_ H
    rcases ifc_ H with ⟨c16, H⟩ | ⟨c16, H⟩
    ·have c16b0 : ((bt t101 x29_1) == 43) = true := beq_iff_eq.mpr c16
     have c16b1 : ((bt t101 x29_1) != 43) = false := bne_eq_false_iff_eq.mpr c16
     clear c16
     obtain ⟨c17, H⟩ := ifp_ H
     have c17b0 := eq_true c17
     have c17b1 := decide_eq_true c17
     clear c17
     obtain ⟨ji18, hji18⟩ : ∃ j_ : Int, (shl .i64 1 (rd y104 x29_1)) = j_ := ⟨_, rfl⟩
     replace H : (impl_chi_split.l0 k1 t101 (Go.bits .or .i64 x13_1 (ji18)) x14_1 y104 (y104.length : Int) (wrap64 (x29_1 + 1)) t102 t103) = some (r1, r2, r3, r4) := by first | (rw [hji18] at H; exact H) | (simp only [hji18] at H ⊢; exact H)
     have hji18_ : (IntKind.i64.wrap (1 * 2 ^ min (rd y104 x29_1).toNat 64)) = ji18 := hji18
     have hji18z : (rd y104 x29_1) ≤ 64 → (IntKind.i64.wrap (1 * 2 ^ (rd y104 x29_1).toNat)) = ji18 := shl_small hji18
     have hji18u : (IntKind.i64.wrap (2 ^ min (rd y104 x29_1).toNat 64)) = ji18 := by have h_ := hji18_; rw [Int.one_mul] at h_; exact h_
     have hji18v : (rd y104 x29_1) ≤ 64 → (IntKind.i64.wrap (2 ^ (rd y104 x29_1).toNat)) = ji18 := fun hle_ => by have h_ := hji18z hle_; rw [Int.one_mul] at h_; exact h_
     have hji18y : (wrap64 (1 * 2 ^ min (rd y104 x29_1).toNat 64)) = ji18 := (i64_w _).symm.trans hji18_
     have hji18x : (rd y104 x29_1) ≤ 64 → (wrap64 (1 * 2 ^ (rd y104 x29_1).toNat)) = ji18 := fun h_ => (i64_w _).symm.trans (hji18z h_)
     have H' := aM_ H
     clear H
     obtain ⟨p107, q107, ad107, e107, hx107_0⟩ := atW_ (Kd.at_int (Kd.R_reads' HO_27.out).2.2 x29_1)
     cases e107
     have p15 : 0 ≤ (x29_1 : Int) := ode_
     have q15 : x29_1 < (t101.size : Int) := ode_
     have hx15 := bt_at t101 x29_1
     replace p15 := eq_true p15
     replace q15 := eq_true q15
     go_wp2
     go_roundg k1
     case measure => have := HK1.out; omega
     case rel => exact ⟨(Go.bits .or .i64 x13_1 (ji18)), (x14_1), (wrap64 (x29_1 + 1)), (by first | rfl | (simp; done) | (simp only [← hji18] <;> (first | rfl | simp)) | (simp [*]; done)), veq_, veq_, H', ⟨by have := HK1.out; omega⟩, ⟨kr_ HO_27⟩, ⟨by repeat (first | (with_reducible first | exact HI0.out | apply IsS96.alloc | apply IsS96.drewN | apply IsS96.drew | apply IsS96.set_0 | apply IsS96.set_1) | exact HI0.out)⟩, ⟨kp_ HK⟩, ⟨bI_ HB (IsS96.ge HI0.out)⟩⟩
    ·have c16b0 : ((bt t101 x29_1) == 43) = false := beq_eq_false_iff_ne.mpr c16
     have c16b1 : ((bt t101 x29_1) != 43) = true := bne_iff_ne.mpr c16
     obtain ⟨c19, H⟩ := ifp_ H
     have c19b0 := eq_true c19
     have c19b1 := decide_eq_true c19
     clear c19
     obtain ⟨ji20, hji20⟩ : ∃ j_ : Int, (shl .i64 1 (rd y104 x29_1)) = j_ := ⟨_, rfl⟩
     replace H : (impl_chi_split.l0 k1 t101 x13_1 (Go.bits .or .i64 x14_1 (ji20)) y104 (y104.length : Int) (wrap64 (x29_1 + 1)) t102 t103) = some (r1, r2, r3, r4) := by first | (rw [hji20] at H; exact H) | (simp only [hji20] at H ⊢; exact H)
     have hji20_ : (IntKind.i64.wrap (1 * 2 ^ min (rd y104 x29_1).toNat 64)) = ji20 := hji20
     have hji20z : (rd y104 x29_1) ≤ 64 → (IntKind.i64.wrap (1 * 2 ^ (rd y104 x29_1).toNat)) = ji20 := shl_small hji20
     have hji20u : (IntKind.i64.wrap (2 ^ min (rd y104 x29_1).toNat 64)) = ji20 := by have h_ := hji20_; rw [Int.one_mul] at h_; exact h_
     have hji20v : (rd y104 x29_1) ≤ 64 → (IntKind.i64.wrap (2 ^ (rd y104 x29_1).toNat)) = ji20 := fun hle_ => by have h_ := hji20z hle_; rw [Int.one_mul] at h_; exact h_
     have hji20y : (wrap64 (1 * 2 ^ min (rd y104 x29_1).toNat 64)) = ji20 := (i64_w _).symm.trans hji20_
     have hji20x : (rd y104 x29_1) ≤ 64 → (wrap64 (1 * 2 ^ (rd y104 x29_1).toNat)) = ji20 := fun h_ => (i64_w _).symm.trans (hji20z h_)
     have H' := aM_ H
     clear H
     obtain ⟨p107, q107, ad107, e107, hx107_0⟩ := atW_ (Kd.at_int (Kd.R_reads' HO_27.out).2.2 x29_1)
     cases e107
     have p15 : 0 ≤ (x29_1 : Int) := ode_
     have q15 : x29_1 < (t101.size : Int) := ode_
     have hx15 := bt_at t101 x29_1
     replace p15 := eq_true p15
     replace q15 := eq_true q15
     go_wp2
     go_roundg k1
     case measure => have := HK1.out; omega
     case rel => exact ⟨(x13_1), (Go.bits .or .i64 x14_1 (ji20)), (wrap64 (x29_1 + 1)), veq_, (by first | rfl | (simp; done) | (simp only [← hji20] <;> (first | rfl | simp)) | (simp [*]; done)), veq_, H', ⟨by have := HK1.out; omega⟩, ⟨kr_ HO_27⟩, ⟨by repeat (first | (with_reducible first | exact HI0.out | apply IsS96.alloc | apply IsS96.drewN | apply IsS96.drew | apply IsS96.set_0 | apply IsS96.set_1) | exact HI0.out)⟩, ⟨kp_ HK⟩, ⟨bI_ HB (IsS96.ge HI0.out)⟩⟩
   ·simp only [Option.some.injEq, Prod.mk.injEq] at H
    obtain ⟨rfl, rfl, rfl, rfl⟩ := H
    go_wp2
    go_ret2
    exact ⟨verr_, by repeat (first | (with_reducible first | exact HI0.out | apply IsS96.alloc | apply IsS96.drewN | apply IsS96.drew | apply IsS96.set_0 | apply IsS96.set_1) | exact HI0.out), bI_ HB (IsS96.ge HI0.out), kp_ HK⟩
end Go.Proofs.YteaagaekdkolnaaGreatDoor.P

namespace Go.Proofs.YteaagaekdkolnaaGreatDoor.P
open Go.RowKit Go.Proofs.YteaagaekdkolnaaGreatDoorW.PrintWords Go.Proofs.YteaagaekdkolnaaGreatDoorW.PrintLast Go.Proofs.YteaagaekdkolnaaGreatDoorW.PrintMore
attribute [local go_sem] max2_int min2_int max_two min_two max_three min_three max_four min_four   -- for this text's walks alone
set_option linter.unusedVariables false
set_option linter.unusedSimpArgs false
/-! ### impl_single: function 112 -/
def impl_single.l0 : Nat → Int → Int → Option (Int)
 | 0, _, _ => none
 | k + 1, x0, x3 => if x3 < 7 then (if 0 ≤ x3 then (if x0 = (shl .i64 1 x3) then (some x3) else (impl_single.l0 k x0 (wrap64 (x3 + 1)))) else (none)) else (some (-1))
def impl_single.f (k : Nat) (a0 : Int) : Option (Int) := impl_single.l0 k a0 0
theorem impl_single.mono_l : ∀ k, (∀ y0 y1, LeO (impl_single.l0 k y0 y1) (impl_single.l0 (k + 1) y0 y1))
 | 0 => fun _ _ r h => by simp [impl_single.l0] at h
 | k + 1 => by
  have ih0 := impl_single.mono_l k
  (intros; unfold impl_single.l0; repeat' (with_reducible first | exact ih0 _ _ | exact LeO.refl _ | exact LeO.none _ | refine LeO.ite ?_ ?_ | refine LeO.bind ?_ (fun _ => ?_)))
theorem impl_single.mono : ∀ a0 k, LeO (impl_single.f k a0) (impl_single.f (k + 1) a0) := by
 intro a0 k
 have ih0 := impl_single.mono_l k
 unfold impl_single.f
 repeat' first
   | (with_reducible exact ih0 _ _)
   | (with_reducible exact LeO.refl _)
   | (with_reducible exact LeO.none _)
   | (with_reducible refine LeO.ite ?_ ?_)
   | (with_reducible refine LeO.bind ?_ (fun _ => ?_))
set_option maxHeartbeats 8000000 in
set_option maxRecDepth 100000 in
theorem impl_single.calls (k : Nat) (a0 : Int) (r : Int) (w : World) (h : impl_single.f k a0 = some r) :
  Calls Tryz.prog 112 #[.int .i64 a0] w fun e w' => e = .returned (.int .i64 r) ∧ Drawn0 w w' := by
 have H : (impl_single.l0 k a0 0) = some r := h
 clear h
 have H' := aM_ H
 clear H
 go_enter Tryz.func112, Tryz.ntmps112
 go_wp2
 go_loopg [3] k (fun kq v3 w' => ∃ (x3_1 : Int), v3 = .int .i64 x3_1 ∧ Aside0 (impl_single.l0 kq a0 x3_1 = some r) ∧ Aside0 (kq ≤ k) ∧ Drawn0 w w')
 case atStart => exact ⟨(0), veq_, H', ⟨Nat.le_refl _⟩, by repeat (first | exact Drawn0.refl _ | apply Drawn0.step)⟩
 case round =>
  clear H'
  obtain ⟨x3_1, rfl, HA, HK1, ⟨m1, rfl⟩⟩ := hrel
  cases gk with
  | zero => exact absurd HA.out (by simp [impl_single.l0])
  | succ k1 =>
   have H := HA.out
   clear HA
   simp only [impl_single.l0] at H
   rcases ifd_ H with ⟨c2b0, H⟩ | ⟨c2b0, H⟩
   ·obtain ⟨c3, H⟩ := ifp_ H
    have c3b0 := eq_true c3
    have c3b1 := decide_eq_true c3
    clear c3
    obtain ⟨ji4, hji4⟩ : ∃ j_ : Int, (shl .i64 1 x3_1) = j_ := ⟨_, rfl⟩
    replace H : (if a0 = (ji4) then (some x3_1) else (impl_single.l0 k1 a0 (wrap64 (x3_1 + 1)))) = some r := by first | (rw [hji4] at H; exact H) | (simp only [hji4] at H ⊢; exact H)
    have hji4_ : (IntKind.i64.wrap (1 * 2 ^ min x3_1.toNat 64)) = ji4 := hji4
    have hji4z : x3_1 ≤ 64 → (IntKind.i64.wrap (1 * 2 ^ x3_1.toNat)) = ji4 := shl_small hji4
    have hji4u : (IntKind.i64.wrap (2 ^ min x3_1.toNat 64)) = ji4 := by have h_ := hji4_; rw [Int.one_mul] at h_; exact h_
    have hji4v : x3_1 ≤ 64 → (IntKind.i64.wrap (2 ^ x3_1.toNat)) = ji4 := fun hle_ => by have h_ := hji4z hle_; rw [Int.one_mul] at h_; exact h_
    have hji4y : (wrap64 (1 * 2 ^ min x3_1.toNat 64)) = ji4 := (i64_w _).symm.trans hji4_
    have hji4x : x3_1 ≤ 64 → (wrap64 (1 * 2 ^ x3_1.toNat)) = ji4 := fun h_ => (i64_w _).symm.trans (hji4z h_)
    rcases ifc_ H with ⟨c5, H⟩ | ⟨c5, H⟩
    ·have c5b0 : (a0 == (ji4)) = true := beq_iff_eq.mpr c5
     have c5b1 : (a0 != (ji4)) = false := bne_eq_false_iff_eq.mpr c5
     clear c5
     obtain rfl := Option.some.inj H
     go_wp2
     go_ret
     exact ⟨by first | rfl | (simp; done) | (simp only [← hji4] <;> (first | rfl | simp)) | (simp [*]; done), by repeat (first | exact Drawn0.refl _ | apply Drawn0.step)⟩
    ·have c5b0 : (a0 == (ji4)) = false := beq_eq_false_iff_ne.mpr c5
     have c5b1 : (a0 != (ji4)) = true := bne_iff_ne.mpr c5
     have H' := aM_ H
     clear H
     go_wp2
     go_roundg k1
     case measure => have := HK1.out; omega
     case rel => exact ⟨(wrap64 (x3_1 + 1)), veq_, H', ⟨by have := HK1.out; omega⟩, by repeat (first | exact Drawn0.refl _ | apply Drawn0.step)⟩
   ·obtain rfl := Option.some.inj H
    go_wp2
    go_ret
    exact ⟨veq_, by repeat (first | exact Drawn0.refl _ | apply Drawn0.step)⟩
end Go.Proofs.YteaagaekdkolnaaGreatDoor.P

namespace Go.Proofs.YteaagaekdkolnaaGreatDoor.P
open Go.RowKit Go.Proofs.YteaagaekdkolnaaGreatDoorW.PrintWords Go.Proofs.YteaagaekdkolnaaGreatDoorW.PrintLast Go.Proofs.YteaagaekdkolnaaGreatDoorW.PrintMore
attribute [local go_sem] max2_int min2_int max_two min_two max_three min_three max_four min_four   -- for this text's walks alone
set_option linter.unusedVariables false
set_option linter.unusedSimpArgs false
/-! ### impl_chi_inner: function 110 -/
def impl_chi_inner.f (k : Nat) (s0_0 : Int) (s0_1 : (Nat → Int)) (a1 : Int) (a2 : Int) (a3 : Int) (a4 : Int) : Option (Int × Int × (Nat → Int)) := (impl_chi_split.f k s0_0 s0_1 a1 a2 a3 a4).bind fun bt101 => ((impl_single.f k bt101.1).bind fun t105 => ((impl_single.f k bt101.2.1).bind fun t106 => (some (mx t105 t106, bt101.2.2.1, bt101.2.2.2))))
theorem impl_chi_inner.mono : ∀ a0 a1 a2 a3 a4 a5 k, LeO (impl_chi_inner.f k a0 a1 a2 a3 a4 a5) (impl_chi_inner.f (k + 1) a0 a1 a2 a3 a4 a5) := by
 intro a0 a1 a2 a3 a4 a5 k
 unfold impl_chi_inner.f
 repeat' first
   | (with_reducible exact impl_chi_split.mono _ _ _ _ _ _ _)
   | (with_reducible exact impl_single.mono _ _)
   | (with_reducible exact LeO.refl _)
   | (with_reducible exact LeO.none _)
   | (with_reducible refine LeO.ite ?_ ?_)
   | (with_reducible refine LeO.bind ?_ (fun _ => ?_))
set_option maxHeartbeats 8000000 in
set_option maxRecDepth 100000 in
theorem impl_chi_inner.calls (k : Nat) (g : Nat) (s0_0 : Int) (s0_1 : (Nat → Int)) (a1 : Int) (a2 : Int) (a3 : Int) (a4 : Int) (r1 : Int) (r2 : Int) (r3 : (Nat → Int)) (w0 w : World) (hI : IsS96 w0 w g s0_0 s0_1) (hB : Below w0.heap.size w0 w) (h : impl_chi_inner.f k s0_0 s0_1 a1 a2 a3 a4 = some (r1, r2, r3)) :
  Calls Tryz.prog 110 #[.pointer (some ⟨g, 0, none⟩), .int .i64 a1, .int .i64 a2, .int .i64 a3, .int .i64 a4] w fun e w' => e = .returned (.int .i64 r1) ∧ IsS96 w0 w' g r2 r3 ∧ Below w0.heap.size w0 w' ∧ KeepBut w w' g none := by
 have HI0 := aM_ hI
 have HK := aM_ (KeepBut.refl w g none)
 have HL := aM_ hB.size
 clear hI
 have HW0 := aM_ hB.size
 have HB := aM_ hB
 clear hB
 have H : ((impl_chi_split.f k s0_0 s0_1 a1 a2 a3 a4).bind fun bt101 => ((impl_single.f k bt101.1).bind fun t105 => ((impl_single.f k bt101.2.1).bind fun t106 => (some (mx t105 t106, bt101.2.2.1, bt101.2.2.2))))) = some (r1, r2, r3) := h
 clear h
 replace H := oB_ H
 obtain ⟨⟨t101, t102, t103, t104⟩, A60, H⟩ := H
 replace H : ((impl_single.f k t101).bind fun t105 => ((impl_single.f k t102).bind fun t106 => (some (mx t105 t106, t103, t104)))) = some (r1, r2, r3) := H
 have A6 := aM_ A60
 clear A60
 replace H := oB_ H
 obtain ⟨t105, A70, H⟩ := H
 replace H : ((impl_single.f k t102).bind fun t106 => (some (mx t105 t106, t103, t104))) = some (r1, r2, r3) := H
 have A7 := aM_ A70
 clear A70
 replace H := oB_ H
 obtain ⟨t106, A80, H⟩ := H
 replace H : (some (mx t105 t106, t103, t104)) = some (r1, r2, r3) := H
 have A8 := aM_ A80
 clear A80
 obtain ⟨ji9, hji9⟩ : ∃ j_ : Int, (mx t105 t106) = j_ := ⟨_, rfl⟩
 replace H : (some (ji9, t103, t104)) = some (r1, r2, r3) := by first | (rw [hji9] at H; exact H) | (simp only [hji9] at H ⊢; exact H)
 (try rw [hji9] at A6)
 (try rw [hji9] at A7)
 (try rw [hji9] at A8)
 have hji9_ : (if t105 < t106 then t106 else t105) = ji9 := hji9
 simp only [Option.some.injEq, Prod.mk.injEq] at H
 obtain ⟨rfl, rfl, rfl⟩ := H
 go_enter Tryz.func110, Tryz.ntmps110
 go_wp2_with (first | ((with_reducible refine gate_callee (f := 111) rfl ?_); refine goesM_ (some 19) Tryz.func111 #[.pointer (some ⟨g, 0, none⟩), .int .i64 a1, .int .i64 a2, .int .i64 a3, .int .i64 a4] ?_; (with_reducible refine (impl_chi_split.calls k g s0_0 s0_1 a1 a2 a3 a4 t101 t102 t103 t104 w0 _ ?side1 ?side2 A6.out).mono ?_); (case side1 => repeat (first | (with_reducible first | exact HI0.out | apply IsS96.alloc | apply IsS96.drewN | apply IsS96.drew | apply IsS96.set_0 | apply IsS96.set_1) | exact HI0.out)); (case side2 => repeat (first | (with_reducible first | exact HB.out | apply bA_ | apply bN_ | apply bD_ | refine below_set ?_ (IsS96.ge HI0.out)) | exact HB.out)); rintro e w10 ⟨rfl, hi, hb, hk⟩; refine ⟨_, rfl, ?_⟩; replace HK := aM_ (KeepBut.trans (kp_ HK) hk (.inl rfl)); replace HB := aM_ (hb); replace HI0 := aM_ (hi); (try clear hb); (try clear hk); (try clear hi)) | ((with_reducible refine gate_callee (f := 112) rfl ?_); refine goesM_ (some 23) Tryz.func112 #[.int .i64 t101] ?_; (with_reducible refine (impl_single.calls k t101 t105 _ A7.out).mono ?_); rintro e w' ⟨rfl, ⟨nd, rfl⟩⟩; refine ⟨_, rfl, ?_⟩) | ((with_reducible refine gate_callee (f := 112) rfl ?_); refine goesM_ (some 25) Tryz.func112 #[.int .i64 t102] ?_; (with_reducible refine (impl_single.calls k t102 t106 _ A8.out).mono ?_); rintro e w' ⟨rfl, ⟨nd, rfl⟩⟩; refine ⟨_, rfl, ?_⟩))
 go_ret
 exact ⟨by first | rfl | (simp [errW_none, errW_some] <;> rfl) | (simp only [← hji9]; first | rfl | (simp [errW_none, errW_some] <;> rfl)) | (simp [*, errW_none, errW_some] <;> rfl), by repeat (first | (with_reducible first | exact HI0.out | apply IsS96.alloc | apply IsS96.drewN | apply IsS96.drew | apply IsS96.set_0 | apply IsS96.set_1) | exact HI0.out), bI_ HB (IsS96.ge HI0.out), kp_ HK⟩
end Go.Proofs.YteaagaekdkolnaaGreatDoor.P

namespace Go.Proofs.YteaagaekdkolnaaGreatDoor.P
open Go.RowKit Go.Proofs.YteaagaekdkolnaaGreatDoorW.PrintWords Go.Proofs.YteaagaekdkolnaaGreatDoorW.PrintLast Go.Proofs.YteaagaekdkolnaaGreatDoorW.PrintMore
attribute [local go_sem] max2_int min2_int max_two min_two max_three min_three max_four min_four   -- for this text's walks alone
set_option linter.unusedVariables false
set_option linter.unusedSimpArgs false
/-! ### impl_chi_isInside: function 107 -/
def impl_chi_isInside.f (k : Nat) (s0_0 : Int) (s0_1 : (Nat → Int)) (a1 : Int) (a2 : Int) (a3 : Int) (a4 : Int) : Option (Bool × Int × (Nat → Int)) := (impl_chi_inner.f k s0_0 s0_1 a1 a2 a3 a4).bind fun bt101 => (some ((bt101.1 == a1), bt101.2.1, bt101.2.2))
theorem impl_chi_isInside.mono : ∀ a0 a1 a2 a3 a4 a5 k, LeO (impl_chi_isInside.f k a0 a1 a2 a3 a4 a5) (impl_chi_isInside.f (k + 1) a0 a1 a2 a3 a4 a5) := by
 intro a0 a1 a2 a3 a4 a5 k
 unfold impl_chi_isInside.f
 repeat' first
   | (with_reducible exact impl_chi_inner.mono _ _ _ _ _ _ _)
   | (with_reducible exact LeO.refl _)
   | (with_reducible exact LeO.none _)
   | (with_reducible refine LeO.ite ?_ ?_)
   | (with_reducible refine LeO.bind ?_ (fun _ => ?_))
set_option maxHeartbeats 8000000 in
set_option maxRecDepth 100000 in
theorem impl_chi_isInside.calls (k : Nat) (g : Nat) (s0_0 : Int) (s0_1 : (Nat → Int)) (a1 : Int) (a2 : Int) (a3 : Int) (a4 : Int) (r1 : Bool) (r2 : Int) (r3 : (Nat → Int)) (w0 w : World) (hI : IsS96 w0 w g s0_0 s0_1) (hB : Below w0.heap.size w0 w) (h : impl_chi_isInside.f k s0_0 s0_1 a1 a2 a3 a4 = some (r1, r2, r3)) :
  Calls Tryz.prog 107 #[.pointer (some ⟨g, 0, none⟩), .int .i64 a1, .int .i64 a2, .int .i64 a3, .int .i64 a4] w fun e w' => e = .returned (.bool r1) ∧ IsS96 w0 w' g r2 r3 ∧ Below w0.heap.size w0 w' ∧ KeepBut w w' g none := by
 have HI0 := aM_ hI
 have HK := aM_ (KeepBut.refl w g none)
 have HL := aM_ hB.size
 clear hI
 have HW0 := aM_ hB.size
 have HB := aM_ hB
 clear hB
 have H : ((impl_chi_inner.f k s0_0 s0_1 a1 a2 a3 a4).bind fun bt101 => (some ((bt101.1 == a1), bt101.2.1, bt101.2.2))) = some (r1, r2, r3) := h
 clear h
 replace H := oB_ H
 obtain ⟨⟨t101, t102, t103⟩, A60, H⟩ := H
 replace H : (some ((t101 == a1), t102, t103)) = some (r1, r2, r3) := H
 have A6 := aM_ A60
 clear A60
 simp only [Option.some.injEq, Prod.mk.injEq] at H
 obtain ⟨rfl, rfl, rfl⟩ := H
 go_enter Tryz.func107, Tryz.ntmps107
 go_wp2_with (first | ((with_reducible refine gate_callee (f := 110) rfl ?_); refine goesM_ (some 16) Tryz.func110 #[.pointer (some ⟨g, 0, none⟩), .int .i64 a1, .int .i64 a2, .int .i64 a3, .int .i64 a4] ?_; (with_reducible refine (impl_chi_inner.calls k g s0_0 s0_1 a1 a2 a3 a4 t101 t102 t103 w0 _ ?side1 ?side2 A6.out).mono ?_); (case side1 => repeat (first | (with_reducible first | exact HI0.out | apply IsS96.alloc | apply IsS96.drewN | apply IsS96.drew | apply IsS96.set_0 | apply IsS96.set_1) | exact HI0.out)); (case side2 => repeat (first | (with_reducible first | exact HB.out | apply bA_ | apply bN_ | apply bD_ | refine below_set ?_ (IsS96.ge HI0.out)) | exact HB.out)); rintro e w7 ⟨rfl, hi, hb, hk⟩; refine ⟨_, rfl, ?_⟩; replace HK := aM_ (KeepBut.trans (kp_ HK) hk (.inl rfl)); replace HB := aM_ (hb); replace HI0 := aM_ (hi); (try clear hb); (try clear hk); (try clear hi)))
 go_ret
 exact ⟨verr_, by repeat (first | (with_reducible first | exact HI0.out | apply IsS96.alloc | apply IsS96.drewN | apply IsS96.drew | apply IsS96.set_0 | apply IsS96.set_1) | exact HI0.out), bI_ HB (IsS96.ge HI0.out), kp_ HK⟩
end Go.Proofs.YteaagaekdkolnaaGreatDoor.P

namespace Go.Proofs.YteaagaekdkolnaaGreatDoor.P
open Go.RowKit Go.Proofs.YteaagaekdkolnaaGreatDoorW.PrintWords Go.Proofs.YteaagaekdkolnaaGreatDoorW.PrintLast Go.Proofs.YteaagaekdkolnaaGreatDoorW.PrintMore
attribute [local go_sem] max2_int min2_int max_two min_two max_three min_three max_four min_four   -- for this text's walks alone
set_option linter.unusedVariables false
set_option linter.unusedSimpArgs false
/-! ### impl_chi_inHull: function 97 -/
def impl_chi_inHull.l0 : Nat → Int → Int → List (S59) → Int → Int → Int → (Nat → Int) → Option (Bool × Int × (Nat → Int))
 | 0, _, _, _, _, _, _, _ => none
 | k + 1, x1, x2, x14, x15, x16, x1000, x1001 => if x16 < x15 then (if 0 ≤ x16 then (if x16 < (x14.length : Int) then (if 0 ≤ ((rd_T59 x14 x16).f0) then (if 0 ≤ ((rd_T59 x14 x16).f1) then (if 0 ≤ ((rd_T59 x14 x16).f2) then (if (Go.bits .and .i64 x1 (Go.bits .or .i64 (Go.bits .or .i64 (shl .i64 1 ((rd_T59 x14 x16).f0)) (shl .i64 1 ((rd_T59 x14 x16).f1))) (shl .i64 1 ((rd_T59 x14 x16).f2)))) = (Go.bits .or .i64 (Go.bits .or .i64 (shl .i64 1 ((rd_T59 x14 x16).f0)) (shl .i64 1 ((rd_T59 x14 x16).f1))) (shl .i64 1 ((rd_T59 x14 x16).f2))) then ((impl_chi_isInside.f k x1000 x1001 x2 ((rd_T59 x14 x16).f0) ((rd_T59 x14 x16).f1) ((rd_T59 x14 x16).f2)).bind fun bt106 => (if bt106.1 = true then (some (true, bt106.2.1, bt106.2.2)) else (impl_chi_inHull.l0 k x1 x2 x14 x15 (wrap64 (x16 + 1)) bt106.2.1 bt106.2.2))) else (impl_chi_inHull.l0 k x1 x2 x14 x15 (wrap64 (x16 + 1)) x1000 x1001)) else (none)) else (none)) else (none)) else (none)) else (none)) else (some (false, x1000, x1001))
def impl_chi_inHull.f (k : Nat) (s0_0 : Int) (s0_1 : (Nat → Int)) (a1 : Int) (a2 : Int) : Option (Bool × Int × (Nat → Int)) := (impl_triplesOf.f k s0_0).bind fun t101 => (impl_chi_inHull.l0 k a1 a2 t101 (t101.length : Int) 0 s0_0 s0_1)
set_option maxHeartbeats 8000000 in
set_option maxRecDepth 100000 in
theorem impl_chi_inHull.calls (k : Nat) (g : Nat) (s0_0 : Int) (s0_1 : (Nat → Int)) (a1 : Int) (a2 : Int) (r1 : Bool) (r2 : Int) (r3 : (Nat → Int)) (w0 w : World) (hI : IsS96 w0 w g s0_0 s0_1) (hB : Below w0.heap.size w0 w) (h : impl_chi_inHull.f k s0_0 s0_1 a1 a2 = some (r1, r2, r3)) :
  Calls Tryz.prog 97 #[.pointer (some ⟨g, 0, none⟩), .int .i64 a1, .int .i64 a2] w fun e w' => e = .returned (.bool r1) ∧ IsS96 w0 w' g r2 r3 ∧ Below w0.heap.size w0 w' ∧ KeepBut w w' g none := by
 have hu59 := Tryz.underlying59
 have HI0 := aM_ hI
 have HK := aM_ (KeepBut.refl w g none)
 have HL := aM_ hB.size
 clear hI
 have HW0 := aM_ hB.size
 have HB := aM_ hB
 clear hB
 have H : ((impl_triplesOf.f k s0_0).bind fun t101 => (impl_chi_inHull.l0 k a1 a2 t101 (t101.length : Int) 0 s0_0 s0_1)) = some (r1, r2, r3) := h
 clear h
 replace H := oB_ H
 obtain ⟨t101, A40, H⟩ := H
 replace H : (impl_chi_inHull.l0 k a1 a2 t101 (t101.length : Int) 0 s0_0 s0_1) = some (r1, r2, r3) := H
 have A4 := aM_ A40
 clear A40
 have H' := aM_ H
 clear H
 obtain ⟨HGz5, hgz5⟩ := HI0.out
 have hcz5_0 := cellS96_0 HGz5
 have hfz5_0 := blk_frozen HGz5 0
 have hfz5_1 := blk_frozen HGz5 1
 clear HGz5 hgz5
 go_enter Tryz.func97, Tryz.ntmps97
 go_wp2_with (first | (go_at_call 38; (with_reducible refine (impl_triplesOf.calls k s0_0 t101 _ A4.out).mono ?_); rintro e w6 ⟨v102, rfl, ho0, hb⟩; have HO103 := aM_ (Kd.R_lower ho0 (keep_size (w := w) (g := g) (row := none) (kp_ HK))); replace HK := aM_ (KeepBut.trans (kp_ HK) (KeepBut.of_below hb g none) (.inl rfl)); replace HB := aM_ (below_step (bI_ HB (IsS96.ge HI0.out)) hb); replace HI0 := aM_ (IsS96.below (by repeat (first | (with_reducible first | exact HI0.out | apply IsS96.alloc | apply IsS96.drewN | apply IsS96.drew | apply IsS96.set_0 | apply IsS96.set_1) | exact HI0.out)) hb); (try clear hb); (try clear hk); (try clear hi); (try clear ho0); obtain ⟨Ao7, co7, eo7⟩ := Kd.R_slice HO103.out; subst eo7))
 repeat (go_quiet (first | (go_at_call 38; (with_reducible refine (impl_triplesOf.calls k s0_0 t101 _ A4.out).mono ?_); rintro e w6 ⟨v102, rfl, ho0, hb⟩; have HO103 := aM_ (Kd.R_lower ho0 (keep_size (w := w) (g := g) (row := none) (kp_ HK))); replace HK := aM_ (KeepBut.trans (kp_ HK) (KeepBut.of_below hb g none) (.inl rfl)); replace HB := aM_ (below_step (bI_ HB (IsS96.ge HI0.out)) hb); replace HI0 := aM_ (IsS96.below (by repeat (first | (with_reducible first | exact HI0.out | apply IsS96.alloc | apply IsS96.drewN | apply IsS96.drew | apply IsS96.set_0 | apply IsS96.set_1) | exact HI0.out)) hb); (try clear hb); (try clear hk); (try clear hi); (try clear ho0); obtain ⟨Ao7, co7, eo7⟩ := Kd.R_slice HO103.out; subst eo7)); try go_wp2_with (first | (go_at_call 38; (with_reducible refine (impl_triplesOf.calls k s0_0 t101 _ A4.out).mono ?_); rintro e w6 ⟨v102, rfl, ho0, hb⟩; have HO103 := aM_ (Kd.R_lower ho0 (keep_size (w := w) (g := g) (row := none) (kp_ HK))); replace HK := aM_ (KeepBut.trans (kp_ HK) (KeepBut.of_below hb g none) (.inl rfl)); replace HB := aM_ (below_step (bI_ HB (IsS96.ge HI0.out)) hb); replace HI0 := aM_ (IsS96.below (by repeat (first | (with_reducible first | exact HI0.out | apply IsS96.alloc | apply IsS96.drewN | apply IsS96.drew | apply IsS96.set_0 | apply IsS96.set_1) | exact HI0.out)) hb); (try clear hb); (try clear hk); (try clear hi); (try clear ho0); obtain ⟨Ao7, co7, eo7⟩ := Kd.R_slice HO103.out; subst eo7)))
 go_loopg [16] k (fun kq v16 w' => ∃ (x16_1 : Int) (x1000_1 : Int) (x1001_1 : (Nat → Int)), v16 = .int .i64 x16_1 ∧ Aside0 (impl_chi_inHull.l0 kq a1 a2 t101 (t101.length : Int) x16_1 x1000_1 x1001_1 = some (r1, r2, r3)) ∧ Aside0 (kq ≤ k) ∧ Aside0 (Kd.R k59 59 w' w.heap.size (fun _ => True) (.slice Ao7 t101.length co7) t101) ∧ Aside0 (IsS96 w0 w' g x1000_1 x1001_1) ∧ Aside0 (KeepBut w w' g none) ∧ Aside0 (Below w0.heap.size w0 w'))
 case atStart => exact ⟨(0), (s0_0), (s0_1), veq_, H', ⟨Nat.le_refl _⟩, ⟨kr_ HO103⟩, ⟨by repeat (first | (with_reducible first | exact HI0.out | apply IsS96.alloc | apply IsS96.drewN | apply IsS96.drew | apply IsS96.set_0 | apply IsS96.set_1) | exact HI0.out)⟩, ⟨kp_ HK⟩, ⟨bI_ HB (IsS96.ge HI0.out)⟩⟩
 case round =>
  clear H'
  try clear hcz5_0
  try clear hfz5_0
  try clear hfz5_1
  obtain ⟨x16_1, x1000_1, x1001_1, rfl, HA, HK1, HO_14, HI0, HK, HB⟩ := hrel
  cases gk with
  | zero => exact absurd HA.out (by simp [impl_chi_inHull.l0])
  | succ k1 =>
   have H := HA.out
   clear HA
   simp only [impl_chi_inHull.l0] at H
   rcases ifd_ H with ⟨c8b0, H⟩ | ⟨c8b0, H⟩
   ·obtain ⟨c9b0, H⟩ := ifn_ H
    obtain ⟨c10b0, H⟩ := ifn_ H
    obtain ⟨c11, H⟩ := ifp_ H
    have c11b0 := eq_true c11
    have c11b1 := decide_eq_true c11
    clear c11
    obtain ⟨ji12, hji12⟩ : ∃ j_ : Int, (shl .i64 1 ((rd_T59 t101 x16_1).f0)) = j_ := ⟨_, rfl⟩
    replace H : (if 0 ≤ ((rd_T59 t101 x16_1).f1) then (if 0 ≤ ((rd_T59 t101 x16_1).f2) then (if (Go.bits .and .i64 a1 (Go.bits .or .i64 (Go.bits .or .i64 (ji12) (shl .i64 1 ((rd_T59 t101 x16_1).f1))) (shl .i64 1 ((rd_T59 t101 x16_1).f2)))) = (Go.bits .or .i64 (Go.bits .or .i64 (ji12) (shl .i64 1 ((rd_T59 t101 x16_1).f1))) (shl .i64 1 ((rd_T59 t101 x16_1).f2))) then ((impl_chi_isInside.f k1 x1000_1 x1001_1 a2 ((rd_T59 t101 x16_1).f0) ((rd_T59 t101 x16_1).f1) ((rd_T59 t101 x16_1).f2)).bind fun bt106 => (if bt106.1 = true then (some (true, bt106.2.1, bt106.2.2)) else (impl_chi_inHull.l0 k1 a1 a2 t101 (t101.length : Int) (wrap64 (x16_1 + 1)) bt106.2.1 bt106.2.2))) else (impl_chi_inHull.l0 k1 a1 a2 t101 (t101.length : Int) (wrap64 (x16_1 + 1)) x1000_1 x1001_1)) else (none)) else (none)) = some (r1, r2, r3) := by first | (rw [hji12] at H; exact H) | (simp only [hji12] at H ⊢; exact H)
    have hji12_ : (IntKind.i64.wrap (1 * 2 ^ min ((rd_T59 t101 x16_1).f0).toNat 64)) = ji12 := hji12
    have hji12z : ((rd_T59 t101 x16_1).f0) ≤ 64 → (IntKind.i64.wrap (1 * 2 ^ ((rd_T59 t101 x16_1).f0).toNat)) = ji12 := shl_small hji12
    have hji12u : (IntKind.i64.wrap (2 ^ min ((rd_T59 t101 x16_1).f0).toNat 64)) = ji12 := by have h_ := hji12_; rw [Int.one_mul] at h_; exact h_
    have hji12v : ((rd_T59 t101 x16_1).f0) ≤ 64 → (IntKind.i64.wrap (2 ^ ((rd_T59 t101 x16_1).f0).toNat)) = ji12 := fun hle_ => by have h_ := hji12z hle_; rw [Int.one_mul] at h_; exact h_
    have hji12y : (wrap64 (1 * 2 ^ min ((rd_T59 t101 x16_1).f0).toNat 64)) = ji12 := (i64_w _).symm.trans hji12_
    have hji12x : ((rd_T59 t101 x16_1).f0) ≤ 64 → (wrap64 (1 * 2 ^ ((rd_T59 t101 x16_1).f0).toNat)) = ji12 := fun h_ => (i64_w _).symm.trans (hji12z h_)
    obtain ⟨c13, H⟩ := ifp_ H
    have c13b0 := eq_true c13
    have c13b1 := decide_eq_true c13
    clear c13
    obtain ⟨ji14, hji14⟩ : ∃ j_ : Int, (shl .i64 1 ((rd_T59 t101 x16_1).f1)) = j_ := ⟨_, rfl⟩
    replace H : (if 0 ≤ ((rd_T59 t101 x16_1).f2) then (if (Go.bits .and .i64 a1 (Go.bits .or .i64 (Go.bits .or .i64 (ji12) (ji14)) (shl .i64 1 ((rd_T59 t101 x16_1).f2)))) = (Go.bits .or .i64 (Go.bits .or .i64 (ji12) (ji14)) (shl .i64 1 ((rd_T59 t101 x16_1).f2))) then ((impl_chi_isInside.f k1 x1000_1 x1001_1 a2 ((rd_T59 t101 x16_1).f0) ((rd_T59 t101 x16_1).f1) ((rd_T59 t101 x16_1).f2)).bind fun bt106 => (if bt106.1 = true then (some (true, bt106.2.1, bt106.2.2)) else (impl_chi_inHull.l0 k1 a1 a2 t101 (t101.length : Int) (wrap64 (x16_1 + 1)) bt106.2.1 bt106.2.2))) else (impl_chi_inHull.l0 k1 a1 a2 t101 (t101.length : Int) (wrap64 (x16_1 + 1)) x1000_1 x1001_1)) else (none)) = some (r1, r2, r3) := by first | (rw [hji14] at H; exact H) | (simp only [hji14] at H ⊢; exact H)
    have hji14_ : (IntKind.i64.wrap (1 * 2 ^ min ((rd_T59 t101 x16_1).f1).toNat 64)) = ji14 := hji14
    have hji14z : ((rd_T59 t101 x16_1).f1) ≤ 64 → (IntKind.i64.wrap (1 * 2 ^ ((rd_T59 t101 x16_1).f1).toNat)) = ji14 := shl_small hji14
    have hji14u : (IntKind.i64.wrap (2 ^ min ((rd_T59 t101 x16_1).f1).toNat 64)) = ji14 := by have h_ := hji14_; rw [Int.one_mul] at h_; exact h_
    have hji14v : ((rd_T59 t101 x16_1).f1) ≤ 64 → (IntKind.i64.wrap (2 ^ ((rd_T59 t101 x16_1).f1).toNat)) = ji14 := fun hle_ => by have h_ := hji14z hle_; rw [Int.one_mul] at h_; exact h_
    have hji14y : (wrap64 (1 * 2 ^ min ((rd_T59 t101 x16_1).f1).toNat 64)) = ji14 := (i64_w _).symm.trans hji14_
    have hji14x : ((rd_T59 t101 x16_1).f1) ≤ 64 → (wrap64 (1 * 2 ^ ((rd_T59 t101 x16_1).f1).toNat)) = ji14 := fun h_ => (i64_w _).symm.trans (hji14z h_)
    obtain ⟨c15, H⟩ := ifp_ H
    have c15b0 := eq_true c15
    have c15b1 := decide_eq_true c15
    clear c15
    obtain ⟨ji16, hji16⟩ : ∃ j_ : Int, (shl .i64 1 ((rd_T59 t101 x16_1).f2)) = j_ := ⟨_, rfl⟩
    replace H : (if (Go.bits .and .i64 a1 (Go.bits .or .i64 (Go.bits .or .i64 (ji12) (ji14)) (ji16))) = (Go.bits .or .i64 (Go.bits .or .i64 (ji12) (ji14)) (ji16)) then ((impl_chi_isInside.f k1 x1000_1 x1001_1 a2 ((rd_T59 t101 x16_1).f0) ((rd_T59 t101 x16_1).f1) ((rd_T59 t101 x16_1).f2)).bind fun bt106 => (if bt106.1 = true then (some (true, bt106.2.1, bt106.2.2)) else (impl_chi_inHull.l0 k1 a1 a2 t101 (t101.length : Int) (wrap64 (x16_1 + 1)) bt106.2.1 bt106.2.2))) else (impl_chi_inHull.l0 k1 a1 a2 t101 (t101.length : Int) (wrap64 (x16_1 + 1)) x1000_1 x1001_1)) = some (r1, r2, r3) := by first | (rw [hji16] at H; exact H) | (simp only [hji16] at H ⊢; exact H)
    have hji16_ : (IntKind.i64.wrap (1 * 2 ^ min ((rd_T59 t101 x16_1).f2).toNat 64)) = ji16 := hji16
    have hji16z : ((rd_T59 t101 x16_1).f2) ≤ 64 → (IntKind.i64.wrap (1 * 2 ^ ((rd_T59 t101 x16_1).f2).toNat)) = ji16 := shl_small hji16
    have hji16u : (IntKind.i64.wrap (2 ^ min ((rd_T59 t101 x16_1).f2).toNat 64)) = ji16 := by have h_ := hji16_; rw [Int.one_mul] at h_; exact h_
    have hji16v : ((rd_T59 t101 x16_1).f2) ≤ 64 → (IntKind.i64.wrap (2 ^ ((rd_T59 t101 x16_1).f2).toNat)) = ji16 := fun hle_ => by have h_ := hji16z hle_; rw [Int.one_mul] at h_; exact h_
    have hji16y : (wrap64 (1 * 2 ^ min ((rd_T59 t101 x16_1).f2).toNat 64)) = ji16 := (i64_w _).symm.trans hji16_
    have hji16x : ((rd_T59 t101 x16_1).f2) ≤ 64 → (wrap64 (1 * 2 ^ ((rd_T59 t101 x16_1).f2).toNat)) = ji16 := fun h_ => (i64_w _).symm.trans (hji16z h_)
    rcases ifc_ H with ⟨c17, H⟩ | ⟨c17, H⟩
    ·have c17b0 : ((Go.bits .and .i64 a1 (Go.bits .or .i64 (Go.bits .or .i64 (ji12) (ji14)) (ji16))) == (Go.bits .or .i64 (Go.bits .or .i64 (ji12) (ji14)) (ji16))) = true := beq_iff_eq.mpr c17
     have c17b1 : ((Go.bits .and .i64 a1 (Go.bits .or .i64 (Go.bits .or .i64 (ji12) (ji14)) (ji16))) != (Go.bits .or .i64 (Go.bits .or .i64 (ji12) (ji14)) (ji16))) = false := bne_eq_false_iff_eq.mpr c17
     clear c17
     replace H := oB_ H
     obtain ⟨⟨t106, t107, t108⟩, A180, H⟩ := H
     replace H : (if t106 = true then (some (true, t107, t108)) else (impl_chi_inHull.l0 k1 a1 a2 t101 (t101.length : Int) (wrap64 (x16_1 + 1)) t107 t108)) = some (r1, r2, r3) := H
     have A18 := aM_ A180
     clear A180
     by_cases c19 : t106 = true
     ·subst c19
      rw [if_pos rfl] at H
      simp only [Option.some.injEq, Prod.mk.injEq] at H
      obtain ⟨rfl, rfl, rfl⟩ := H
      obtain ⟨p104, q104, ad104, e104, hx104_0, hx104_1, hx104_2⟩ := atW_ (at_T59 (Kd.R_reads' HO_14.out).2.2 x16_1)
      cases e104
      go_wp2_with (first | ((with_reducible refine gate_dst (N := 8) rfl ?_); refine boxE_ (N := 8) #[.int .i64 0, .int .i64 0, .int .i64 0] 59 ?_; intro gb105 hg w20 hbox hb; replace HO_14 := aM_ (Kd.R_below (Kd.R_elderB (kr_ HO_14) gb105 (Nat.le_of_eq hg.symm)) hb); replace HB := aM_ (below_step (bI_ HB (IsS96.ge HI0.out)) hb); have BK105 := aM_ (hbox); have GW105 := aM_ ((by rw [hg]; exact (keep_size (w := w) (g := g) (row := none) (kp_ HK)) : w.heap.size ≤ gb105)); have GE105 := aM_ ((Nat.le_trans HW0.out (by rw [hg]; exact (keep_size (w := w) (g := g) (row := none) (kp_ HK)) : w.heap.size ≤ gb105) : w0.heap.size ≤ gb105)); replace HK := aM_ (KeepBut.trans (kp_ HK) (KeepBut.of_below hb g none) (.inl rfl)); have NB0_105 := aM_ ((by rw [hg]; exact Nat.ne_of_lt (IsS96.lt (show IsS96 w0 _ g x1000_1 x1001_1 from by repeat (first | (with_reducible first | exact HI0.out | apply IsS96.alloc | apply IsS96.drewN | apply IsS96.drew | apply IsS96.set_0 | apply IsS96.set_1) | exact HI0.out))) : g ≠ gb105)); have NB105_0 := aM_ ((by rw [hg]; exact Nat.ne_of_gt (IsS96.lt (show IsS96 w0 _ g x1000_1 x1001_1 from by repeat (first | (with_reducible first | exact HI0.out | apply IsS96.alloc | apply IsS96.drewN | apply IsS96.drew | apply IsS96.set_0 | apply IsS96.set_1) | exact HI0.out))) : gb105 ≠ g)); replace HI0 := aM_ (IsS96.below (by repeat (first | (with_reducible first | exact HI0.out | apply IsS96.alloc | apply IsS96.drewN | apply IsS96.drew | apply IsS96.set_0 | apply IsS96.set_1) | exact HI0.out)) hb); clear hb hbox hg; have hnb21 := NB105_0.out; have hnc21 := NB0_105.out; have hcz22_0 := bc_ BK105 0; have hcz22_1 := bc_ BK105 1; have hcz22_2 := bc_ BK105 2; have hfz22_0 := blk_frozen BK105.out 0; have hfz22_1 := blk_frozen BK105.out 1; have hfz22_2 := blk_frozen BK105.out 2) | (go_at_call 107; (with_reducible refine (impl_chi_isInside.calls k1 g x1000_1 x1001_1 a2 ((rd_T59 t101 x16_1).f0) ((rd_T59 t101 x16_1).f1) ((rd_T59 t101 x16_1).f2) true t107 t108 w0 _ ?side1 ?side2 A18.out).mono ?_); (case side1 => repeat (first | (with_reducible first | exact HI0.out | apply IsS96.alloc | apply IsS96.drewN | apply IsS96.drew | apply IsS96.set_0 | apply IsS96.set_1 | refine IsS96.far ?_ NB0_105.out _) | exact HI0.out)); (case side2 => repeat (first | (with_reducible first | exact HB.out | apply bA_ | apply bN_ | apply bD_ | refine below_set ?_ (IsS96.ge HI0.out) | refine below_set ?_ GE105.out) | exact HB.out)); rintro e w23 ⟨rfl, hi, hb, hk⟩; replace HO_14 := aM_ (Kd.R_mono (Kd.R_keep (IsS96.apart (show IsS96 w0 _ g x1000_1 x1001_1 from by repeat (first | (with_reducible first | exact HI0.out | apply IsS96.alloc | apply IsS96.drewN | apply IsS96.drew | apply IsS96.set_0 | apply IsS96.set_1 | refine IsS96.far ?_ NB0_105.out _) | exact HI0.out)) (by (with_reducible repeat (first | apply kA_ | apply kN_ | apply kD_)); exact (Kd.R_mono (Kd.R_far (p := ⟨gb105, 2, none⟩) (Kd.R_far (p := ⟨gb105, 1, none⟩) (Kd.R_far (p := ⟨gb105, 0, none⟩) (Kd.R_mono HO_14.out (fun k_ hk => (⟨hk, hk.2⟩ : _ ∧ k_ ≠ gb105))) (fun _ hk => hk.2) (.int .i64 ((rd_T59 t101 x16_1).f0))) (fun _ hk => hk.2) (.int .i64 ((rd_T59 t101 x16_1).f1))) (fun _ hk => hk.2) (.int .i64 ((rd_T59 t101 x16_1).f2))) (fun _ h_ => h_.1))) (by decide)) hk (fun _ h => h.2)) (fun _ h => h.1)); replace BK105 := aM_ (KeepBut.blk hk (g' := gb105) (o := .cells #[.int .i64 ((rd_T59 t101 x16_1).f0), .int .i64 ((rd_T59 t101 x16_1).f1), .int .i64 ((rd_T59 t101 x16_1).f2)] 59 (0, 0)) (by (with_reducible repeat (first | refine blk_drewN ?_ _ | refine blk_drew ?_ | refine blk_alloc ?_ _)); refine blk_put (cs := #[.int .i64 ((rd_T59 t101 x16_1).f0), .int .i64 ((rd_T59 t101 x16_1).f1), .int .i64 0]) ?_ 2 _ rfl; (with_reducible repeat (first | refine blk_drewN ?_ _ | refine blk_drew ?_ | refine blk_alloc ?_ _)); refine blk_put (cs := #[.int .i64 ((rd_T59 t101 x16_1).f0), .int .i64 0, .int .i64 0]) ?_ 1 _ rfl; (with_reducible repeat (first | refine blk_drewN ?_ _ | refine blk_drew ?_ | refine blk_alloc ?_ _)); refine blk_put (cs := #[.int .i64 0, .int .i64 0, .int .i64 0]) ?_ 0 _ rfl; (with_reducible repeat (first | refine blk_drewN ?_ _ | refine blk_drew ?_ | refine blk_alloc ?_ _)); exact BK105.out) NB105_0.out (by simp)); replace HK := aM_ (KeepBut.trans (by repeat (first | (with_reducible first | exact HK.out | apply KeepBut.set_ | apply keep_drewN | apply keep_drew | apply keep_alloc | refine keep_far ?_ GW105.out _) | exact HK.out)) hk (.inl rfl)); replace HB := aM_ (hb); replace HI0 := aM_ (hi); (try clear hb); (try clear hk); (try clear hi)))
      repeat (go_quiet (first | ((with_reducible refine gate_dst (N := 8) rfl ?_); refine boxE_ (N := 8) #[.int .i64 0, .int .i64 0, .int .i64 0] 59 ?_; intro gb105 hg w20 hbox hb; replace HO_14 := aM_ (Kd.R_below (Kd.R_elderB (kr_ HO_14) gb105 (Nat.le_of_eq hg.symm)) hb); replace HB := aM_ (below_step (bI_ HB (IsS96.ge HI0.out)) hb); have BK105 := aM_ (hbox); have GW105 := aM_ ((by rw [hg]; exact (keep_size (w := w) (g := g) (row := none) (kp_ HK)) : w.heap.size ≤ gb105)); have GE105 := aM_ ((Nat.le_trans HW0.out (by rw [hg]; exact (keep_size (w := w) (g := g) (row := none) (kp_ HK)) : w.heap.size ≤ gb105) : w0.heap.size ≤ gb105)); replace HK := aM_ (KeepBut.trans (kp_ HK) (KeepBut.of_below hb g none) (.inl rfl)); have NB0_105 := aM_ ((by rw [hg]; exact Nat.ne_of_lt (IsS96.lt (show IsS96 w0 _ g x1000_1 x1001_1 from by repeat (first | (with_reducible first | exact HI0.out | apply IsS96.alloc | apply IsS96.drewN | apply IsS96.drew | apply IsS96.set_0 | apply IsS96.set_1) | exact HI0.out))) : g ≠ gb105)); have NB105_0 := aM_ ((by rw [hg]; exact Nat.ne_of_gt (IsS96.lt (show IsS96 w0 _ g x1000_1 x1001_1 from by repeat (first | (with_reducible first | exact HI0.out | apply IsS96.alloc | apply IsS96.drewN | apply IsS96.drew | apply IsS96.set_0 | apply IsS96.set_1) | exact HI0.out))) : gb105 ≠ g)); replace HI0 := aM_ (IsS96.below (by repeat (first | (with_reducible first | exact HI0.out | apply IsS96.alloc | apply IsS96.drewN | apply IsS96.drew | apply IsS96.set_0 | apply IsS96.set_1) | exact HI0.out)) hb); clear hb hbox hg; have hnb21 := NB105_0.out; have hnc21 := NB0_105.out; have hcz22_0 := bc_ BK105 0; have hcz22_1 := bc_ BK105 1; have hcz22_2 := bc_ BK105 2; have hfz22_0 := blk_frozen BK105.out 0; have hfz22_1 := blk_frozen BK105.out 1; have hfz22_2 := blk_frozen BK105.out 2) | (go_at_call 107; (with_reducible refine (impl_chi_isInside.calls k1 g x1000_1 x1001_1 a2 ((rd_T59 t101 x16_1).f0) ((rd_T59 t101 x16_1).f1) ((rd_T59 t101 x16_1).f2) true t107 t108 w0 _ ?side1 ?side2 A18.out).mono ?_); (case side1 => repeat (first | (with_reducible first | exact HI0.out | apply IsS96.alloc | apply IsS96.drewN | apply IsS96.drew | apply IsS96.set_0 | apply IsS96.set_1 | refine IsS96.far ?_ NB0_105.out _) | exact HI0.out)); (case side2 => repeat (first | (with_reducible first | exact HB.out | apply bA_ | apply bN_ | apply bD_ | refine below_set ?_ (IsS96.ge HI0.out) | refine below_set ?_ GE105.out) | exact HB.out)); rintro e w23 ⟨rfl, hi, hb, hk⟩; replace HO_14 := aM_ (Kd.R_mono (Kd.R_keep (IsS96.apart (show IsS96 w0 _ g x1000_1 x1001_1 from by repeat (first | (with_reducible first | exact HI0.out | apply IsS96.alloc | apply IsS96.drewN | apply IsS96.drew | apply IsS96.set_0 | apply IsS96.set_1 | refine IsS96.far ?_ NB0_105.out _) | exact HI0.out)) (by (with_reducible repeat (first | apply kA_ | apply kN_ | apply kD_)); exact (Kd.R_mono (Kd.R_far (p := ⟨gb105, 2, none⟩) (Kd.R_far (p := ⟨gb105, 1, none⟩) (Kd.R_far (p := ⟨gb105, 0, none⟩) (Kd.R_mono HO_14.out (fun k_ hk => (⟨hk, hk.2⟩ : _ ∧ k_ ≠ gb105))) (fun _ hk => hk.2) (.int .i64 ((rd_T59 t101 x16_1).f0))) (fun _ hk => hk.2) (.int .i64 ((rd_T59 t101 x16_1).f1))) (fun _ hk => hk.2) (.int .i64 ((rd_T59 t101 x16_1).f2))) (fun _ h_ => h_.1))) (by decide)) hk (fun _ h => h.2)) (fun _ h => h.1)); replace BK105 := aM_ (KeepBut.blk hk (g' := gb105) (o := .cells #[.int .i64 ((rd_T59 t101 x16_1).f0), .int .i64 ((rd_T59 t101 x16_1).f1), .int .i64 ((rd_T59 t101 x16_1).f2)] 59 (0, 0)) (by (with_reducible repeat (first | refine blk_drewN ?_ _ | refine blk_drew ?_ | refine blk_alloc ?_ _)); refine blk_put (cs := #[.int .i64 ((rd_T59 t101 x16_1).f0), .int .i64 ((rd_T59 t101 x16_1).f1), .int .i64 0]) ?_ 2 _ rfl; (with_reducible repeat (first | refine blk_drewN ?_ _ | refine blk_drew ?_ | refine blk_alloc ?_ _)); refine blk_put (cs := #[.int .i64 ((rd_T59 t101 x16_1).f0), .int .i64 0, .int .i64 0]) ?_ 1 _ rfl; (with_reducible repeat (first | refine blk_drewN ?_ _ | refine blk_drew ?_ | refine blk_alloc ?_ _)); refine blk_put (cs := #[.int .i64 0, .int .i64 0, .int .i64 0]) ?_ 0 _ rfl; (with_reducible repeat (first | refine blk_drewN ?_ _ | refine blk_drew ?_ | refine blk_alloc ?_ _)); exact BK105.out) NB105_0.out (by simp)); replace HK := aM_ (KeepBut.trans (by repeat (first | (with_reducible first | exact HK.out | apply KeepBut.set_ | apply keep_drewN | apply keep_drew | apply keep_alloc | refine keep_far ?_ GW105.out _) | exact HK.out)) hk (.inl rfl)); replace HB := aM_ (hb); replace HI0 := aM_ (hi); (try clear hb); (try clear hk); (try clear hi))); try go_wp2_with (first | ((with_reducible refine gate_dst (N := 8) rfl ?_); refine boxE_ (N := 8) #[.int .i64 0, .int .i64 0, .int .i64 0] 59 ?_; intro gb105 hg w20 hbox hb; replace HO_14 := aM_ (Kd.R_below (Kd.R_elderB (kr_ HO_14) gb105 (Nat.le_of_eq hg.symm)) hb); replace HB := aM_ (below_step (bI_ HB (IsS96.ge HI0.out)) hb); have BK105 := aM_ (hbox); have GW105 := aM_ ((by rw [hg]; exact (keep_size (w := w) (g := g) (row := none) (kp_ HK)) : w.heap.size ≤ gb105)); have GE105 := aM_ ((Nat.le_trans HW0.out (by rw [hg]; exact (keep_size (w := w) (g := g) (row := none) (kp_ HK)) : w.heap.size ≤ gb105) : w0.heap.size ≤ gb105)); replace HK := aM_ (KeepBut.trans (kp_ HK) (KeepBut.of_below hb g none) (.inl rfl)); have NB0_105 := aM_ ((by rw [hg]; exact Nat.ne_of_lt (IsS96.lt (show IsS96 w0 _ g x1000_1 x1001_1 from by repeat (first | (with_reducible first | exact HI0.out | apply IsS96.alloc | apply IsS96.drewN | apply IsS96.drew | apply IsS96.set_0 | apply IsS96.set_1) | exact HI0.out))) : g ≠ gb105)); have NB105_0 := aM_ ((by rw [hg]; exact Nat.ne_of_gt (IsS96.lt (show IsS96 w0 _ g x1000_1 x1001_1 from by repeat (first | (with_reducible first | exact HI0.out | apply IsS96.alloc | apply IsS96.drewN | apply IsS96.drew | apply IsS96.set_0 | apply IsS96.set_1) | exact HI0.out))) : gb105 ≠ g)); replace HI0 := aM_ (IsS96.below (by repeat (first | (with_reducible first | exact HI0.out | apply IsS96.alloc | apply IsS96.drewN | apply IsS96.drew | apply IsS96.set_0 | apply IsS96.set_1) | exact HI0.out)) hb); clear hb hbox hg; have hnb21 := NB105_0.out; have hnc21 := NB0_105.out; have hcz22_0 := bc_ BK105 0; have hcz22_1 := bc_ BK105 1; have hcz22_2 := bc_ BK105 2; have hfz22_0 := blk_frozen BK105.out 0; have hfz22_1 := blk_frozen BK105.out 1; have hfz22_2 := blk_frozen BK105.out 2) | (go_at_call 107; (with_reducible refine (impl_chi_isInside.calls k1 g x1000_1 x1001_1 a2 ((rd_T59 t101 x16_1).f0) ((rd_T59 t101 x16_1).f1) ((rd_T59 t101 x16_1).f2) true t107 t108 w0 _ ?side1 ?side2 A18.out).mono ?_); (case side1 => repeat (first | (with_reducible first | exact HI0.out | apply IsS96.alloc | apply IsS96.drewN | apply IsS96.drew | apply IsS96.set_0 | apply IsS96.set_1 | refine IsS96.far ?_ NB0_105.out _) | exact HI0.out)); (case side2 => repeat (first | (with_reducible first | exact HB.out | apply bA_ | apply bN_ | apply bD_ | refine below_set ?_ (IsS96.ge HI0.out) | refine below_set ?_ GE105.out) | exact HB.out)); rintro e w23 ⟨rfl, hi, hb, hk⟩; replace HO_14 := aM_ (Kd.R_mono (Kd.R_keep (IsS96.apart (show IsS96 w0 _ g x1000_1 x1001_1 from by repeat (first | (with_reducible first | exact HI0.out | apply IsS96.alloc | apply IsS96.drewN | apply IsS96.drew | apply IsS96.set_0 | apply IsS96.set_1 | refine IsS96.far ?_ NB0_105.out _) | exact HI0.out)) (by (with_reducible repeat (first | apply kA_ | apply kN_ | apply kD_)); exact (Kd.R_mono (Kd.R_far (p := ⟨gb105, 2, none⟩) (Kd.R_far (p := ⟨gb105, 1, none⟩) (Kd.R_far (p := ⟨gb105, 0, none⟩) (Kd.R_mono HO_14.out (fun k_ hk => (⟨hk, hk.2⟩ : _ ∧ k_ ≠ gb105))) (fun _ hk => hk.2) (.int .i64 ((rd_T59 t101 x16_1).f0))) (fun _ hk => hk.2) (.int .i64 ((rd_T59 t101 x16_1).f1))) (fun _ hk => hk.2) (.int .i64 ((rd_T59 t101 x16_1).f2))) (fun _ h_ => h_.1))) (by decide)) hk (fun _ h => h.2)) (fun _ h => h.1)); replace BK105 := aM_ (KeepBut.blk hk (g' := gb105) (o := .cells #[.int .i64 ((rd_T59 t101 x16_1).f0), .int .i64 ((rd_T59 t101 x16_1).f1), .int .i64 ((rd_T59 t101 x16_1).f2)] 59 (0, 0)) (by (with_reducible repeat (first | refine blk_drewN ?_ _ | refine blk_drew ?_ | refine blk_alloc ?_ _)); refine blk_put (cs := #[.int .i64 ((rd_T59 t101 x16_1).f0), .int .i64 ((rd_T59 t101 x16_1).f1), .int .i64 0]) ?_ 2 _ rfl; (with_reducible repeat (first | refine blk_drewN ?_ _ | refine blk_drew ?_ | refine blk_alloc ?_ _)); refine blk_put (cs := #[.int .i64 ((rd_T59 t101 x16_1).f0), .int .i64 0, .int .i64 0]) ?_ 1 _ rfl; (with_reducible repeat (first | refine blk_drewN ?_ _ | refine blk_drew ?_ | refine blk_alloc ?_ _)); refine blk_put (cs := #[.int .i64 0, .int .i64 0, .int .i64 0]) ?_ 0 _ rfl; (with_reducible repeat (first | refine blk_drewN ?_ _ | refine blk_drew ?_ | refine blk_alloc ?_ _)); exact BK105.out) NB105_0.out (by simp)); replace HK := aM_ (KeepBut.trans (by repeat (first | (with_reducible first | exact HK.out | apply KeepBut.set_ | apply keep_drewN | apply keep_drew | apply keep_alloc | refine keep_far ?_ GW105.out _) | exact HK.out)) hk (.inl rfl)); replace HB := aM_ (hb); replace HI0 := aM_ (hi); (try clear hb); (try clear hk); (try clear hi))))
      go_ret
      exact ⟨by first | rfl | (simp [errW_none, errW_some] <;> rfl) | (simp only [← hji12, ← hji14, ← hji16]; first | rfl | (simp [errW_none, errW_some] <;> rfl)) | (simp [*, errW_none, errW_some] <;> rfl), by repeat (first | (with_reducible first | exact HI0.out | apply IsS96.alloc | apply IsS96.drewN | apply IsS96.drew | apply IsS96.set_0 | apply IsS96.set_1 | refine IsS96.far ?_ NB0_105.out _) | exact HI0.out), bI_ HB (IsS96.ge HI0.out), by repeat (first | (with_reducible first | exact HK.out | apply KeepBut.set_ | apply keep_drewN | apply keep_drew | apply keep_alloc | refine keep_far ?_ GW105.out _) | exact HK.out)⟩
     ·replace c19 := Bool.eq_false_iff.mpr c19
      subst c19
      rw [if_neg (show ¬ (false = true) by decide)] at H
      have H' := aM_ H
      clear H
      obtain ⟨p104, q104, ad104, e104, hx104_0, hx104_1, hx104_2⟩ := atW_ (at_T59 (Kd.R_reads' HO_14.out).2.2 x16_1)
      cases e104
      go_wp2_with (first | ((with_reducible refine gate_dst (N := 8) rfl ?_); refine boxE_ (N := 8) #[.int .i64 0, .int .i64 0, .int .i64 0] 59 ?_; intro gb105 hg w24 hbox hb; replace HO_14 := aM_ (Kd.R_below (Kd.R_elderB (kr_ HO_14) gb105 (Nat.le_of_eq hg.symm)) hb); replace HB := aM_ (below_step (bI_ HB (IsS96.ge HI0.out)) hb); have BK105 := aM_ (hbox); have GW105 := aM_ ((by rw [hg]; exact (keep_size (w := w) (g := g) (row := none) (kp_ HK)) : w.heap.size ≤ gb105)); have GE105 := aM_ ((Nat.le_trans HW0.out (by rw [hg]; exact (keep_size (w := w) (g := g) (row := none) (kp_ HK)) : w.heap.size ≤ gb105) : w0.heap.size ≤ gb105)); replace HK := aM_ (KeepBut.trans (kp_ HK) (KeepBut.of_below hb g none) (.inl rfl)); have NB0_105 := aM_ ((by rw [hg]; exact Nat.ne_of_lt (IsS96.lt (show IsS96 w0 _ g x1000_1 x1001_1 from by repeat (first | (with_reducible first | exact HI0.out | apply IsS96.alloc | apply IsS96.drewN | apply IsS96.drew | apply IsS96.set_0 | apply IsS96.set_1) | exact HI0.out))) : g ≠ gb105)); have NB105_0 := aM_ ((by rw [hg]; exact Nat.ne_of_gt (IsS96.lt (show IsS96 w0 _ g x1000_1 x1001_1 from by repeat (first | (with_reducible first | exact HI0.out | apply IsS96.alloc | apply IsS96.drewN | apply IsS96.drew | apply IsS96.set_0 | apply IsS96.set_1) | exact HI0.out))) : gb105 ≠ g)); replace HI0 := aM_ (IsS96.below (by repeat (first | (with_reducible first | exact HI0.out | apply IsS96.alloc | apply IsS96.drewN | apply IsS96.drew | apply IsS96.set_0 | apply IsS96.set_1) | exact HI0.out)) hb); clear hb hbox hg; have hnb25 := NB105_0.out; have hnc25 := NB0_105.out; have hcz26_0 := bc_ BK105 0; have hcz26_1 := bc_ BK105 1; have hcz26_2 := bc_ BK105 2; have hfz26_0 := blk_frozen BK105.out 0; have hfz26_1 := blk_frozen BK105.out 1; have hfz26_2 := blk_frozen BK105.out 2) | (go_at_call 107; (with_reducible refine (impl_chi_isInside.calls k1 g x1000_1 x1001_1 a2 ((rd_T59 t101 x16_1).f0) ((rd_T59 t101 x16_1).f1) ((rd_T59 t101 x16_1).f2) false t107 t108 w0 _ ?side1 ?side2 A18.out).mono ?_); (case side1 => repeat (first | (with_reducible first | exact HI0.out | apply IsS96.alloc | apply IsS96.drewN | apply IsS96.drew | apply IsS96.set_0 | apply IsS96.set_1 | refine IsS96.far ?_ NB0_105.out _) | exact HI0.out)); (case side2 => repeat (first | (with_reducible first | exact HB.out | apply bA_ | apply bN_ | apply bD_ | refine below_set ?_ (IsS96.ge HI0.out) | refine below_set ?_ GE105.out) | exact HB.out)); rintro e w27 ⟨rfl, hi, hb, hk⟩; replace HO_14 := aM_ (Kd.R_mono (Kd.R_keep (IsS96.apart (show IsS96 w0 _ g x1000_1 x1001_1 from by repeat (first | (with_reducible first | exact HI0.out | apply IsS96.alloc | apply IsS96.drewN | apply IsS96.drew | apply IsS96.set_0 | apply IsS96.set_1 | refine IsS96.far ?_ NB0_105.out _) | exact HI0.out)) (by (with_reducible repeat (first | apply kA_ | apply kN_ | apply kD_)); exact (Kd.R_mono (Kd.R_far (p := ⟨gb105, 2, none⟩) (Kd.R_far (p := ⟨gb105, 1, none⟩) (Kd.R_far (p := ⟨gb105, 0, none⟩) (Kd.R_mono HO_14.out (fun k_ hk => (⟨hk, hk.2⟩ : _ ∧ k_ ≠ gb105))) (fun _ hk => hk.2) (.int .i64 ((rd_T59 t101 x16_1).f0))) (fun _ hk => hk.2) (.int .i64 ((rd_T59 t101 x16_1).f1))) (fun _ hk => hk.2) (.int .i64 ((rd_T59 t101 x16_1).f2))) (fun _ h_ => h_.1))) (by decide)) hk (fun _ h => h.2)) (fun _ h => h.1)); replace BK105 := aM_ (KeepBut.blk hk (g' := gb105) (o := .cells #[.int .i64 ((rd_T59 t101 x16_1).f0), .int .i64 ((rd_T59 t101 x16_1).f1), .int .i64 ((rd_T59 t101 x16_1).f2)] 59 (0, 0)) (by (with_reducible repeat (first | refine blk_drewN ?_ _ | refine blk_drew ?_ | refine blk_alloc ?_ _)); refine blk_put (cs := #[.int .i64 ((rd_T59 t101 x16_1).f0), .int .i64 ((rd_T59 t101 x16_1).f1), .int .i64 0]) ?_ 2 _ rfl; (with_reducible repeat (first | refine blk_drewN ?_ _ | refine blk_drew ?_ | refine blk_alloc ?_ _)); refine blk_put (cs := #[.int .i64 ((rd_T59 t101 x16_1).f0), .int .i64 0, .int .i64 0]) ?_ 1 _ rfl; (with_reducible repeat (first | refine blk_drewN ?_ _ | refine blk_drew ?_ | refine blk_alloc ?_ _)); refine blk_put (cs := #[.int .i64 0, .int .i64 0, .int .i64 0]) ?_ 0 _ rfl; (with_reducible repeat (first | refine blk_drewN ?_ _ | refine blk_drew ?_ | refine blk_alloc ?_ _)); exact BK105.out) NB105_0.out (by simp)); replace HK := aM_ (KeepBut.trans (by repeat (first | (with_reducible first | exact HK.out | apply KeepBut.set_ | apply keep_drewN | apply keep_drew | apply keep_alloc | refine keep_far ?_ GW105.out _) | exact HK.out)) hk (.inl rfl)); replace HB := aM_ (hb); replace HI0 := aM_ (hi); (try clear hb); (try clear hk); (try clear hi)))
      repeat (go_quiet (first | ((with_reducible refine gate_dst (N := 8) rfl ?_); refine boxE_ (N := 8) #[.int .i64 0, .int .i64 0, .int .i64 0] 59 ?_; intro gb105 hg w24 hbox hb; replace HO_14 := aM_ (Kd.R_below (Kd.R_elderB (kr_ HO_14) gb105 (Nat.le_of_eq hg.symm)) hb); replace HB := aM_ (below_step (bI_ HB (IsS96.ge HI0.out)) hb); have BK105 := aM_ (hbox); have GW105 := aM_ ((by rw [hg]; exact (keep_size (w := w) (g := g) (row := none) (kp_ HK)) : w.heap.size ≤ gb105)); have GE105 := aM_ ((Nat.le_trans HW0.out (by rw [hg]; exact (keep_size (w := w) (g := g) (row := none) (kp_ HK)) : w.heap.size ≤ gb105) : w0.heap.size ≤ gb105)); replace HK := aM_ (KeepBut.trans (kp_ HK) (KeepBut.of_below hb g none) (.inl rfl)); have NB0_105 := aM_ ((by rw [hg]; exact Nat.ne_of_lt (IsS96.lt (show IsS96 w0 _ g x1000_1 x1001_1 from by repeat (first | (with_reducible first | exact HI0.out | apply IsS96.alloc | apply IsS96.drewN | apply IsS96.drew | apply IsS96.set_0 | apply IsS96.set_1) | exact HI0.out))) : g ≠ gb105)); have NB105_0 := aM_ ((by rw [hg]; exact Nat.ne_of_gt (IsS96.lt (show IsS96 w0 _ g x1000_1 x1001_1 from by repeat (first | (with_reducible first | exact HI0.out | apply IsS96.alloc | apply IsS96.drewN | apply IsS96.drew | apply IsS96.set_0 | apply IsS96.set_1) | exact HI0.out))) : gb105 ≠ g)); replace HI0 := aM_ (IsS96.below (by repeat (first | (with_reducible first | exact HI0.out | apply IsS96.alloc | apply IsS96.drewN | apply IsS96.drew | apply IsS96.set_0 | apply IsS96.set_1) | exact HI0.out)) hb); clear hb hbox hg; have hnb25 := NB105_0.out; have hnc25 := NB0_105.out; have hcz26_0 := bc_ BK105 0; have hcz26_1 := bc_ BK105 1; have hcz26_2 := bc_ BK105 2; have hfz26_0 := blk_frozen BK105.out 0; have hfz26_1 := blk_frozen BK105.out 1; have hfz26_2 := blk_frozen BK105.out 2) | (go_at_call 107; (with_reducible refine (impl_chi_isInside.calls k1 g x1000_1 x1001_1 a2 ((rd_T59 t101 x16_1).f0) ((rd_T59 t101 x16_1).f1) ((rd_T59 t101 x16_1).f2) false t107 t108 w0 _ ?side1 ?side2 A18.out).mono ?_); (case side1 => repeat (first | (with_reducible first | exact HI0.out | apply IsS96.alloc | apply IsS96.drewN | apply IsS96.drew | apply IsS96.set_0 | apply IsS96.set_1 | refine IsS96.far ?_ NB0_105.out _) | exact HI0.out)); (case side2 => repeat (first | (with_reducible first | exact HB.out | apply bA_ | apply bN_ | apply bD_ | refine below_set ?_ (IsS96.ge HI0.out) | refine below_set ?_ GE105.out) | exact HB.out)); rintro e w27 ⟨rfl, hi, hb, hk⟩; replace HO_14 := aM_ (Kd.R_mono (Kd.R_keep (IsS96.apart (show IsS96 w0 _ g x1000_1 x1001_1 from by repeat (first | (with_reducible first | exact HI0.out | apply IsS96.alloc | apply IsS96.drewN | apply IsS96.drew | apply IsS96.set_0 | apply IsS96.set_1 | refine IsS96.far ?_ NB0_105.out _) | exact HI0.out)) (by (with_reducible repeat (first | apply kA_ | apply kN_ | apply kD_)); exact (Kd.R_mono (Kd.R_far (p := ⟨gb105, 2, none⟩) (Kd.R_far (p := ⟨gb105, 1, none⟩) (Kd.R_far (p := ⟨gb105, 0, none⟩) (Kd.R_mono HO_14.out (fun k_ hk => (⟨hk, hk.2⟩ : _ ∧ k_ ≠ gb105))) (fun _ hk => hk.2) (.int .i64 ((rd_T59 t101 x16_1).f0))) (fun _ hk => hk.2) (.int .i64 ((rd_T59 t101 x16_1).f1))) (fun _ hk => hk.2) (.int .i64 ((rd_T59 t101 x16_1).f2))) (fun _ h_ => h_.1))) (by decide)) hk (fun _ h => h.2)) (fun _ h => h.1)); replace BK105 := aM_ (KeepBut.blk hk (g' := gb105) (o := .cells #[.int .i64 ((rd_T59 t101 x16_1).f0), .int .i64 ((rd_T59 t101 x16_1).f1), .int .i64 ((rd_T59 t101 x16_1).f2)] 59 (0, 0)) (by (with_reducible repeat (first | refine blk_drewN ?_ _ | refine blk_drew ?_ | refine blk_alloc ?_ _)); refine blk_put (cs := #[.int .i64 ((rd_T59 t101 x16_1).f0), .int .i64 ((rd_T59 t101 x16_1).f1), .int .i64 0]) ?_ 2 _ rfl; (with_reducible repeat (first | refine blk_drewN ?_ _ | refine blk_drew ?_ | refine blk_alloc ?_ _)); refine blk_put (cs := #[.int .i64 ((rd_T59 t101 x16_1).f0), .int .i64 0, .int .i64 0]) ?_ 1 _ rfl; (with_reducible repeat (first | refine blk_drewN ?_ _ | refine blk_drew ?_ | refine blk_alloc ?_ _)); refine blk_put (cs := #[.int .i64 0, .int .i64 0, .int .i64 0]) ?_ 0 _ rfl; (with_reducible repeat (first | refine blk_drewN ?_ _ | refine blk_drew ?_ | refine blk_alloc ?_ _)); exact BK105.out) NB105_0.out (by simp)); replace HK := aM_ (KeepBut.trans (by repeat (first | (with_reducible first | exact HK.out | apply KeepBut.set_ | apply keep_drewN | apply keep_drew | apply keep_alloc | refine keep_far ?_ GW105.out _) | exact HK.out)) hk (.inl rfl)); replace HB := aM_ (hb); replace HI0 := aM_ (hi); (try clear hb); (try clear hk); (try clear hi))); try go_wp2_with (first | ((with_reducible refine gate_dst (N := 8) rfl ?_); refine boxE_ (N := 8) #[.int .i64 0, .int .i64 0, .int .i64 0] 59 ?_; intro gb105 hg w24 hbox hb; replace HO_14 := aM_ (Kd.R_below (Kd.R_elderB (kr_ HO_14) gb105 (Nat.le_of_eq hg.symm)) hb); replace HB := aM_ (below_step (bI_ HB (IsS96.ge HI0.out)) hb); have BK105 := aM_ (hbox); have GW105 := aM_ ((by rw [hg]; exact (keep_size (w := w) (g := g) (row := none) (kp_ HK)) : w.heap.size ≤ gb105)); have GE105 := aM_ ((Nat.le_trans HW0.out (by rw [hg]; exact (keep_size (w := w) (g := g) (row := none) (kp_ HK)) : w.heap.size ≤ gb105) : w0.heap.size ≤ gb105)); replace HK := aM_ (KeepBut.trans (kp_ HK) (KeepBut.of_below hb g none) (.inl rfl)); have NB0_105 := aM_ ((by rw [hg]; exact Nat.ne_of_lt (IsS96.lt (show IsS96 w0 _ g x1000_1 x1001_1 from by repeat (first | (with_reducible first | exact HI0.out | apply IsS96.alloc | apply IsS96.drewN | apply IsS96.drew | apply IsS96.set_0 | apply IsS96.set_1) | exact HI0.out))) : g ≠ gb105)); have NB105_0 := aM_ ((by rw [hg]; exact Nat.ne_of_gt (IsS96.lt (show IsS96 w0 _ g x1000_1 x1001_1 from by repeat (first | (with_reducible first | exact HI0.out | apply IsS96.alloc | apply IsS96.drewN | apply IsS96.drew | apply IsS96.set_0 | apply IsS96.set_1) | exact HI0.out))) : gb105 ≠ g)); replace HI0 := aM_ (IsS96.below (by repeat (first | (with_reducible first | exact HI0.out | apply IsS96.alloc | apply IsS96.drewN | apply IsS96.drew | apply IsS96.set_0 | apply IsS96.set_1) | exact HI0.out)) hb); clear hb hbox hg; have hnb25 := NB105_0.out; have hnc25 := NB0_105.out; have hcz26_0 := bc_ BK105 0; have hcz26_1 := bc_ BK105 1; have hcz26_2 := bc_ BK105 2; have hfz26_0 := blk_frozen BK105.out 0; have hfz26_1 := blk_frozen BK105.out 1; have hfz26_2 := blk_frozen BK105.out 2) | (go_at_call 107; (with_reducible refine (impl_chi_isInside.calls k1 g x1000_1 x1001_1 a2 ((rd_T59 t101 x16_1).f0) ((rd_T59 t101 x16_1).f1) ((rd_T59 t101 x16_1).f2) false t107 t108 w0 _ ?side1 ?side2 A18.out).mono ?_); (case side1 => repeat (first | (with_reducible first | exact HI0.out | apply IsS96.alloc | apply IsS96.drewN | apply IsS96.drew | apply IsS96.set_0 | apply IsS96.set_1 | refine IsS96.far ?_ NB0_105.out _) | exact HI0.out)); (case side2 => repeat (first | (with_reducible first | exact HB.out | apply bA_ | apply bN_ | apply bD_ | refine below_set ?_ (IsS96.ge HI0.out) | refine below_set ?_ GE105.out) | exact HB.out)); rintro e w27 ⟨rfl, hi, hb, hk⟩; replace HO_14 := aM_ (Kd.R_mono (Kd.R_keep (IsS96.apart (show IsS96 w0 _ g x1000_1 x1001_1 from by repeat (first | (with_reducible first | exact HI0.out | apply IsS96.alloc | apply IsS96.drewN | apply IsS96.drew | apply IsS96.set_0 | apply IsS96.set_1 | refine IsS96.far ?_ NB0_105.out _) | exact HI0.out)) (by (with_reducible repeat (first | apply kA_ | apply kN_ | apply kD_)); exact (Kd.R_mono (Kd.R_far (p := ⟨gb105, 2, none⟩) (Kd.R_far (p := ⟨gb105, 1, none⟩) (Kd.R_far (p := ⟨gb105, 0, none⟩) (Kd.R_mono HO_14.out (fun k_ hk => (⟨hk, hk.2⟩ : _ ∧ k_ ≠ gb105))) (fun _ hk => hk.2) (.int .i64 ((rd_T59 t101 x16_1).f0))) (fun _ hk => hk.2) (.int .i64 ((rd_T59 t101 x16_1).f1))) (fun _ hk => hk.2) (.int .i64 ((rd_T59 t101 x16_1).f2))) (fun _ h_ => h_.1))) (by decide)) hk (fun _ h => h.2)) (fun _ h => h.1)); replace BK105 := aM_ (KeepBut.blk hk (g' := gb105) (o := .cells #[.int .i64 ((rd_T59 t101 x16_1).f0), .int .i64 ((rd_T59 t101 x16_1).f1), .int .i64 ((rd_T59 t101 x16_1).f2)] 59 (0, 0)) (by (with_reducible repeat (first | refine blk_drewN ?_ _ | refine blk_drew ?_ | refine blk_alloc ?_ _)); refine blk_put (cs := #[.int .i64 ((rd_T59 t101 x16_1).f0), .int .i64 ((rd_T59 t101 x16_1).f1), .int .i64 0]) ?_ 2 _ rfl; (with_reducible repeat (first | refine blk_drewN ?_ _ | refine blk_drew ?_ | refine blk_alloc ?_ _)); refine blk_put (cs := #[.int .i64 ((rd_T59 t101 x16_1).f0), .int .i64 0, .int .i64 0]) ?_ 1 _ rfl; (with_reducible repeat (first | refine blk_drewN ?_ _ | refine blk_drew ?_ | refine blk_alloc ?_ _)); refine blk_put (cs := #[.int .i64 0, .int .i64 0, .int .i64 0]) ?_ 0 _ rfl; (with_reducible repeat (first | refine blk_drewN ?_ _ | refine blk_drew ?_ | refine blk_alloc ?_ _)); exact BK105.out) NB105_0.out (by simp)); replace HK := aM_ (KeepBut.trans (by repeat (first | (with_reducible first | exact HK.out | apply KeepBut.set_ | apply keep_drewN | apply keep_drew | apply keep_alloc | refine keep_far ?_ GW105.out _) | exact HK.out)) hk (.inl rfl)); replace HB := aM_ (hb); replace HI0 := aM_ (hi); (try clear hb); (try clear hk); (try clear hi))))
      go_roundg k1
      case measure => have := HK1.out; omega
      case rel => exact ⟨(wrap64 (x16_1 + 1)), (t107), (t108), veq_, H', ⟨by have := HK1.out; omega⟩, ⟨by (with_reducible repeat (first | apply kA_ | apply kN_ | apply kD_)); exact Kd.R_mono HO_14.out (fun _ hk => trivial)⟩, ⟨by repeat (first | (with_reducible first | exact HI0.out | apply IsS96.alloc | apply IsS96.drewN | apply IsS96.drew | apply IsS96.set_0 | apply IsS96.set_1 | refine IsS96.far ?_ NB0_105.out _) | exact HI0.out)⟩, ⟨by repeat (first | (with_reducible first | exact HK.out | apply KeepBut.set_ | apply keep_drewN | apply keep_drew | apply keep_alloc | refine keep_far ?_ GW105.out _) | exact HK.out)⟩, ⟨bI_ HB (IsS96.ge HI0.out)⟩⟩
    ·have c17b0 : ((Go.bits .and .i64 a1 (Go.bits .or .i64 (Go.bits .or .i64 (ji12) (ji14)) (ji16))) == (Go.bits .or .i64 (Go.bits .or .i64 (ji12) (ji14)) (ji16))) = false := beq_eq_false_iff_ne.mpr c17
     have c17b1 : ((Go.bits .and .i64 a1 (Go.bits .or .i64 (Go.bits .or .i64 (ji12) (ji14)) (ji16))) != (Go.bits .or .i64 (Go.bits .or .i64 (ji12) (ji14)) (ji16))) = true := bne_iff_ne.mpr c17
     have H' := aM_ H
     clear H
     obtain ⟨p104, q104, ad104, e104, hx104_0, hx104_1, hx104_2⟩ := atW_ (at_T59 (Kd.R_reads' HO_14.out).2.2 x16_1)
     cases e104
     go_wp2_with (first | ((with_reducible refine gate_dst (N := 8) rfl ?_); refine boxE_ (N := 8) #[.int .i64 0, .int .i64 0, .int .i64 0] 59 ?_; intro gb105 hg w28 hbox hb; replace HO_14 := aM_ (Kd.R_below (Kd.R_elderB (kr_ HO_14) gb105 (Nat.le_of_eq hg.symm)) hb); replace HB := aM_ (below_step (bI_ HB (IsS96.ge HI0.out)) hb); have BK105 := aM_ (hbox); have GW105 := aM_ ((by rw [hg]; exact (keep_size (w := w) (g := g) (row := none) (kp_ HK)) : w.heap.size ≤ gb105)); have GE105 := aM_ ((Nat.le_trans HW0.out (by rw [hg]; exact (keep_size (w := w) (g := g) (row := none) (kp_ HK)) : w.heap.size ≤ gb105) : w0.heap.size ≤ gb105)); replace HK := aM_ (KeepBut.trans (kp_ HK) (KeepBut.of_below hb g none) (.inl rfl)); have NB0_105 := aM_ ((by rw [hg]; exact Nat.ne_of_lt (IsS96.lt (show IsS96 w0 _ g x1000_1 x1001_1 from by repeat (first | (with_reducible first | exact HI0.out | apply IsS96.alloc | apply IsS96.drewN | apply IsS96.drew | apply IsS96.set_0 | apply IsS96.set_1) | exact HI0.out))) : g ≠ gb105)); have NB105_0 := aM_ ((by rw [hg]; exact Nat.ne_of_gt (IsS96.lt (show IsS96 w0 _ g x1000_1 x1001_1 from by repeat (first | (with_reducible first | exact HI0.out | apply IsS96.alloc | apply IsS96.drewN | apply IsS96.drew | apply IsS96.set_0 | apply IsS96.set_1) | exact HI0.out))) : gb105 ≠ g)); replace HI0 := aM_ (IsS96.below (by repeat (first | (with_reducible first | exact HI0.out | apply IsS96.alloc | apply IsS96.drewN | apply IsS96.drew | apply IsS96.set_0 | apply IsS96.set_1) | exact HI0.out)) hb); clear hb hbox hg; have hnb29 := NB105_0.out; have hnc29 := NB0_105.out; have hcz30_0 := bc_ BK105 0; have hcz30_1 := bc_ BK105 1; have hcz30_2 := bc_ BK105 2; have hfz30_0 := blk_frozen BK105.out 0; have hfz30_1 := blk_frozen BK105.out 1; have hfz30_2 := blk_frozen BK105.out 2))
     repeat (go_quiet (first | ((with_reducible refine gate_dst (N := 8) rfl ?_); refine boxE_ (N := 8) #[.int .i64 0, .int .i64 0, .int .i64 0] 59 ?_; intro gb105 hg w28 hbox hb; replace HO_14 := aM_ (Kd.R_below (Kd.R_elderB (kr_ HO_14) gb105 (Nat.le_of_eq hg.symm)) hb); replace HB := aM_ (below_step (bI_ HB (IsS96.ge HI0.out)) hb); have BK105 := aM_ (hbox); have GW105 := aM_ ((by rw [hg]; exact (keep_size (w := w) (g := g) (row := none) (kp_ HK)) : w.heap.size ≤ gb105)); have GE105 := aM_ ((Nat.le_trans HW0.out (by rw [hg]; exact (keep_size (w := w) (g := g) (row := none) (kp_ HK)) : w.heap.size ≤ gb105) : w0.heap.size ≤ gb105)); replace HK := aM_ (KeepBut.trans (kp_ HK) (KeepBut.of_below hb g none) (.inl rfl)); have NB0_105 := aM_ ((by rw [hg]; exact Nat.ne_of_lt (IsS96.lt (show IsS96 w0 _ g x1000_1 x1001_1 from by repeat (first | (with_reducible first | exact HI0.out | apply IsS96.alloc | apply IsS96.drewN | apply IsS96.drew | apply IsS96.set_0 | apply IsS96.set_1) | exact HI0.out))) : g ≠ gb105)); have NB105_0 := aM_ ((by rw [hg]; exact Nat.ne_of_gt (IsS96.lt (show IsS96 w0 _ g x1000_1 x1001_1 from by repeat (first | (with_reducible first | exact HI0.out | apply IsS96.alloc | apply IsS96.drewN | apply IsS96.drew | apply IsS96.set_0 | apply IsS96.set_1) | exact HI0.out))) : gb105 ≠ g)); replace HI0 := aM_ (IsS96.below (by repeat (first | (with_reducible first | exact HI0.out | apply IsS96.alloc | apply IsS96.drewN | apply IsS96.drew | apply IsS96.set_0 | apply IsS96.set_1) | exact HI0.out)) hb); clear hb hbox hg; have hnb29 := NB105_0.out; have hnc29 := NB0_105.out; have hcz30_0 := bc_ BK105 0; have hcz30_1 := bc_ BK105 1; have hcz30_2 := bc_ BK105 2; have hfz30_0 := blk_frozen BK105.out 0; have hfz30_1 := blk_frozen BK105.out 1; have hfz30_2 := blk_frozen BK105.out 2)); try go_wp2_with (first | ((with_reducible refine gate_dst (N := 8) rfl ?_); refine boxE_ (N := 8) #[.int .i64 0, .int .i64 0, .int .i64 0] 59 ?_; intro gb105 hg w28 hbox hb; replace HO_14 := aM_ (Kd.R_below (Kd.R_elderB (kr_ HO_14) gb105 (Nat.le_of_eq hg.symm)) hb); replace HB := aM_ (below_step (bI_ HB (IsS96.ge HI0.out)) hb); have BK105 := aM_ (hbox); have GW105 := aM_ ((by rw [hg]; exact (keep_size (w := w) (g := g) (row := none) (kp_ HK)) : w.heap.size ≤ gb105)); have GE105 := aM_ ((Nat.le_trans HW0.out (by rw [hg]; exact (keep_size (w := w) (g := g) (row := none) (kp_ HK)) : w.heap.size ≤ gb105) : w0.heap.size ≤ gb105)); replace HK := aM_ (KeepBut.trans (kp_ HK) (KeepBut.of_below hb g none) (.inl rfl)); have NB0_105 := aM_ ((by rw [hg]; exact Nat.ne_of_lt (IsS96.lt (show IsS96 w0 _ g x1000_1 x1001_1 from by repeat (first | (with_reducible first | exact HI0.out | apply IsS96.alloc | apply IsS96.drewN | apply IsS96.drew | apply IsS96.set_0 | apply IsS96.set_1) | exact HI0.out))) : g ≠ gb105)); have NB105_0 := aM_ ((by rw [hg]; exact Nat.ne_of_gt (IsS96.lt (show IsS96 w0 _ g x1000_1 x1001_1 from by repeat (first | (with_reducible first | exact HI0.out | apply IsS96.alloc | apply IsS96.drewN | apply IsS96.drew | apply IsS96.set_0 | apply IsS96.set_1) | exact HI0.out))) : gb105 ≠ g)); replace HI0 := aM_ (IsS96.below (by repeat (first | (with_reducible first | exact HI0.out | apply IsS96.alloc | apply IsS96.drewN | apply IsS96.drew | apply IsS96.set_0 | apply IsS96.set_1) | exact HI0.out)) hb); clear hb hbox hg; have hnb29 := NB105_0.out; have hnc29 := NB0_105.out; have hcz30_0 := bc_ BK105 0; have hcz30_1 := bc_ BK105 1; have hcz30_2 := bc_ BK105 2; have hfz30_0 := blk_frozen BK105.out 0; have hfz30_1 := blk_frozen BK105.out 1; have hfz30_2 := blk_frozen BK105.out 2)))
     go_roundg k1
     case measure => have := HK1.out; omega
     case rel => exact ⟨(wrap64 (x16_1 + 1)), (x1000_1), (x1001_1), veq_, H', ⟨by have := HK1.out; omega⟩, ⟨by (with_reducible repeat (first | apply kA_ | apply kN_ | apply kD_)); exact Kd.R_mono (Kd.R_far (p := ⟨gb105, 2, none⟩) (Kd.R_far (p := ⟨gb105, 1, none⟩) (Kd.R_far (p := ⟨gb105, 0, none⟩) (Kd.R_mono HO_14.out (fun k_ hk => (⟨hk, hk.2⟩ : _ ∧ k_ ≠ gb105))) (fun _ hk => hk.2) (.int .i64 ((rd_T59 t101 x16_1).f0))) (fun _ hk => hk.2) (.int .i64 ((rd_T59 t101 x16_1).f1))) (fun _ hk => hk.2) (.int .i64 ((rd_T59 t101 x16_1).f2))) (fun _ hk => trivial)⟩, ⟨by repeat (first | (with_reducible first | exact HI0.out | apply IsS96.alloc | apply IsS96.drewN | apply IsS96.drew | apply IsS96.set_0 | apply IsS96.set_1 | refine IsS96.far ?_ NB0_105.out _) | exact HI0.out)⟩, ⟨by repeat (first | (with_reducible first | exact HK.out | apply KeepBut.set_ | apply keep_drewN | apply keep_drew | apply keep_alloc | refine keep_far ?_ GW105.out _) | exact HK.out)⟩, ⟨bI_ HB (IsS96.ge HI0.out)⟩⟩
   ·simp only [Option.some.injEq, Prod.mk.injEq] at H
    obtain ⟨rfl, rfl, rfl⟩ := H
    go_wp2
    repeat (go_quiet (fail); try go_wp2)
    go_ret
    exact ⟨verr_, by repeat (first | (with_reducible first | exact HI0.out | apply IsS96.alloc | apply IsS96.drewN | apply IsS96.drew | apply IsS96.set_0 | apply IsS96.set_1) | exact HI0.out), bI_ HB (IsS96.ge HI0.out), kp_ HK⟩
end Go.Proofs.YteaagaekdkolnaaGreatDoor.P

namespace Go.Proofs.YteaagaekdkolnaaGreatDoor.P
open Go.RowKit Go.Proofs.YteaagaekdkolnaaGreatDoorW.PrintWords Go.Proofs.YteaagaekdkolnaaGreatDoorW.PrintLast Go.Proofs.YteaagaekdkolnaaGreatDoorW.PrintMore
attribute [local go_sem] max2_int min2_int max_two min_two max_three min_three max_four min_four   -- for this text's walks alone
set_option linter.unusedVariables false
set_option linter.unusedSimpArgs false
/-! ### impl_chi_extremeIn: function 82 -/
def impl_chi_extremeIn.l0 : Nat → Int → Int → Int → Int → (Nat → Int) → Option (Int × Int × (Nat → Int))
 | 0, _, _, _, _, _ => none
 | k + 1, x1, x5, x6, x1000, x1001 => if x6 < x1000 then (if 0 ≤ x6 then (if (Go.bits .and .i64 (shr .i64 x1 x6) 1) = 1 then ((impl_chi_inHull.f k x1000 x1001 (Go.bits .andNot .i64 x1 (shl .i64 1 x6)) x6).bind fun bt101 => (if bt101.1 = true then (impl_chi_extremeIn.l0 k x1 x5 (wrap64 (x6 + 1)) bt101.2.1 bt101.2.2) else (impl_chi_extremeIn.l0 k x1 (Go.bits .or .i64 x5 (shl .i64 1 x6)) (wrap64 (x6 + 1)) bt101.2.1 bt101.2.2))) else (impl_chi_extremeIn.l0 k x1 x5 (wrap64 (x6 + 1)) x1000 x1001)) else (none)) else (some (x5, x1000, x1001))
def impl_chi_extremeIn.f (k : Nat) (s0_0 : Int) (s0_1 : (Nat → Int)) (a1 : Int) : Option (Int × Int × (Nat → Int)) := impl_chi_extremeIn.l0 k a1 0 0 s0_0 s0_1
set_option maxHeartbeats 8000000 in
set_option maxRecDepth 100000 in
theorem impl_chi_extremeIn.calls (k : Nat) (g : Nat) (s0_0 : Int) (s0_1 : (Nat → Int)) (a1 : Int) (r1 : Int) (r2 : Int) (r3 : (Nat → Int)) (w0 w : World) (hI : IsS96 w0 w g s0_0 s0_1) (hB : Below w0.heap.size w0 w) (h : impl_chi_extremeIn.f k s0_0 s0_1 a1 = some (r1, r2, r3)) :
  Calls Tryz.prog 82 #[.pointer (some ⟨g, 0, none⟩), .int .i64 a1] w fun e w' => e = .returned (.int .i64 r1) ∧ IsS96 w0 w' g r2 r3 ∧ Below w0.heap.size w0 w' ∧ KeepBut w w' g none := by
 have HI0 := aM_ hI
 have HK := aM_ (KeepBut.refl w g none)
 have HL := aM_ hB.size
 clear hI
 have HW0 := aM_ hB.size
 have HB := aM_ hB
 clear hB
 have H : (impl_chi_extremeIn.l0 k a1 0 0 s0_0 s0_1) = some (r1, r2, r3) := h
 clear h
 have H' := aM_ H
 clear H
 go_enter Tryz.func82, Tryz.ntmps82
 go_wp2
 go_loopg [5, 6] k (fun kq v5 v6 w' => ∃ (x5_1 : Int) (x6_1 : Int) (x1000_1 : Int) (x1001_1 : (Nat → Int)), v5 = .int .i64 x5_1 ∧ v6 = .int .i64 x6_1 ∧ Aside0 (impl_chi_extremeIn.l0 kq a1 x5_1 x6_1 x1000_1 x1001_1 = some (r1, r2, r3)) ∧ Aside0 (kq ≤ k) ∧ Aside0 (IsS96 w0 w' g x1000_1 x1001_1) ∧ Aside0 (KeepBut w w' g none) ∧ Aside0 (Below w0.heap.size w0 w'))
 case atStart => exact ⟨(0), (0), (s0_0), (s0_1), veq_, veq_, H', ⟨Nat.le_refl _⟩, ⟨by repeat (first | (with_reducible first | exact HI0.out | apply IsS96.alloc | apply IsS96.drewN | apply IsS96.drew | apply IsS96.set_0 | apply IsS96.set_1) | exact HI0.out)⟩, ⟨kp_ HK⟩, ⟨bI_ HB (IsS96.ge HI0.out)⟩⟩
 case round =>
  clear H'
  obtain ⟨x5_1, x6_1, x1000_1, x1001_1, rfl, rfl, HA, HK1, HI0, HK, HB⟩ := hrel
  cases gk with
  | zero => exact absurd HA.out (by simp [impl_chi_extremeIn.l0])
  | succ k1 =>
   have H := HA.out
   clear HA
   simp only [impl_chi_extremeIn.l0] at H
   rcases ifd_ H with ⟨c3b0, H⟩ | ⟨c3b0, H⟩
   ·obtain ⟨c4, H⟩ := ifp_ H
    have c4b0 := eq_true c4
    have c4b1 := decide_eq_true c4
    clear c4
    obtain ⟨ji5, hji5⟩ : ∃ j_ : Int, (shr .i64 a1 x6_1) = j_ := ⟨_, rfl⟩
    replace H : (if (Go.bits .and .i64 (ji5) 1) = 1 then ((impl_chi_inHull.f k1 x1000_1 x1001_1 (Go.bits .andNot .i64 a1 (shl .i64 1 x6_1)) x6_1).bind fun bt101 => (if bt101.1 = true then (impl_chi_extremeIn.l0 k1 a1 x5_1 (wrap64 (x6_1 + 1)) bt101.2.1 bt101.2.2) else (impl_chi_extremeIn.l0 k1 a1 (Go.bits .or .i64 x5_1 (shl .i64 1 x6_1)) (wrap64 (x6_1 + 1)) bt101.2.1 bt101.2.2))) else (impl_chi_extremeIn.l0 k1 a1 x5_1 (wrap64 (x6_1 + 1)) x1000_1 x1001_1)) = some (r1, r2, r3) := by first | (rw [hji5] at H; exact H) | (simp only [hji5] at H ⊢; exact H)
    have hji5_ : (a1 / 2 ^ min x6_1.toNat 64) = ji5 := hji5
    have hji5z : x6_1 ≤ 64 → (a1 / 2 ^ x6_1.toNat) = ji5 := shr_small hji5
    rcases ifc_ H with ⟨c6, H⟩ | ⟨c6, H⟩
    ·have c6b0 : ((Go.bits .and .i64 (ji5) 1) == 1) = true := beq_iff_eq.mpr c6
     have c6b1 : ((Go.bits .and .i64 (ji5) 1) != 1) = false := bne_eq_false_iff_eq.mpr c6
     clear c6
     have c7b0 := eq_true (ode_ : 0 ≤ x6_1)
     obtain ⟨ji8, hji8⟩ : ∃ j_ : Int, (shl .i64 1 x6_1) = j_ := ⟨_, rfl⟩
     replace H : ((impl_chi_inHull.f k1 x1000_1 x1001_1 (Go.bits .andNot .i64 a1 (ji8)) x6_1).bind fun bt101 => (if bt101.1 = true then (impl_chi_extremeIn.l0 k1 a1 x5_1 (wrap64 (x6_1 + 1)) bt101.2.1 bt101.2.2) else (impl_chi_extremeIn.l0 k1 a1 (Go.bits .or .i64 x5_1 (ji8)) (wrap64 (x6_1 + 1)) bt101.2.1 bt101.2.2))) = some (r1, r2, r3) := by first | (rw [hji8] at H; exact H) | (simp only [hji8] at H ⊢; exact H)
     have hji8_ : (IntKind.i64.wrap (1 * 2 ^ min x6_1.toNat 64)) = ji8 := hji8
     have hji8z : x6_1 ≤ 64 → (IntKind.i64.wrap (1 * 2 ^ x6_1.toNat)) = ji8 := shl_small hji8
     have hji8u : (IntKind.i64.wrap (2 ^ min x6_1.toNat 64)) = ji8 := by have h_ := hji8_; rw [Int.one_mul] at h_; exact h_
     have hji8v : x6_1 ≤ 64 → (IntKind.i64.wrap (2 ^ x6_1.toNat)) = ji8 := fun hle_ => by have h_ := hji8z hle_; rw [Int.one_mul] at h_; exact h_
     have hji8y : (wrap64 (1 * 2 ^ min x6_1.toNat 64)) = ji8 := (i64_w _).symm.trans hji8_
     have hji8x : x6_1 ≤ 64 → (wrap64 (1 * 2 ^ x6_1.toNat)) = ji8 := fun h_ => (i64_w _).symm.trans (hji8z h_)
     replace H := oB_ H
     obtain ⟨⟨t101, t102, t103⟩, A90, H⟩ := H
     replace H : (if t101 = true then (impl_chi_extremeIn.l0 k1 a1 x5_1 (wrap64 (x6_1 + 1)) t102 t103) else (impl_chi_extremeIn.l0 k1 a1 (Go.bits .or .i64 x5_1 (ji8)) (wrap64 (x6_1 + 1)) t102 t103)) = some (r1, r2, r3) := H
     have A9 := aM_ A90
     clear A90
     by_cases c10 : t101 = true
     ·subst c10
      rw [if_pos rfl] at H
      have H' := aM_ H
      clear H
      obtain ⟨HGz11, hgz11⟩ := HI0.out
      have hcz11_0 := cellS96_0 HGz11
      have hfz11_0 := blk_frozen HGz11 0
      have hfz11_1 := blk_frozen HGz11 1
      clear HGz11 hgz11
      go_wp2_with (first | (go_at_call 97; (with_reducible refine (impl_chi_inHull.calls k1 g x1000_1 x1001_1 (Go.bits .andNot .i64 a1 (ji8)) x6_1 true t102 t103 w0 _ ?side1 ?side2 A9.out).mono ?_); (case side1 => repeat (first | (with_reducible first | exact HI0.out | apply IsS96.alloc | apply IsS96.drewN | apply IsS96.drew | apply IsS96.set_0 | apply IsS96.set_1) | exact HI0.out)); (case side2 => repeat (first | (with_reducible first | exact HB.out | apply bA_ | apply bN_ | apply bD_ | refine below_set ?_ (IsS96.ge HI0.out)) | exact HB.out)); rintro e w12 ⟨rfl, hi, hb, hk⟩; replace HK := aM_ (KeepBut.trans (kp_ HK) hk (.inl rfl)); replace HB := aM_ (hb); replace HI0 := aM_ (hi); (try clear hb); (try clear hk); (try clear hi)))
      go_roundg k1
      case measure => have := HK1.out; omega
      case rel => exact ⟨(x5_1), (wrap64 (x6_1 + 1)), (t102), (t103), veq_, veq_, H', ⟨by have := HK1.out; omega⟩, ⟨by repeat (first | (with_reducible first | exact HI0.out | apply IsS96.alloc | apply IsS96.drewN | apply IsS96.drew | apply IsS96.set_0 | apply IsS96.set_1) | exact HI0.out)⟩, ⟨kp_ HK⟩, ⟨bI_ HB (IsS96.ge HI0.out)⟩⟩
     ·replace c10 := Bool.eq_false_iff.mpr c10
      subst c10
      rw [if_neg (show ¬ (false = true) by decide)] at H
      have c13b0 := eq_true (ode_ : 0 ≤ x6_1)
      have H' := aM_ H
      clear H
      obtain ⟨HGz15, hgz15⟩ := HI0.out
      have hcz15_0 := cellS96_0 HGz15
      have hfz15_0 := blk_frozen HGz15 0
      have hfz15_1 := blk_frozen HGz15 1
      clear HGz15 hgz15
      go_wp2_with (first | (go_at_call 97; (with_reducible refine (impl_chi_inHull.calls k1 g x1000_1 x1001_1 (Go.bits .andNot .i64 a1 (ji8)) x6_1 false t102 t103 w0 _ ?side1 ?side2 A9.out).mono ?_); (case side1 => repeat (first | (with_reducible first | exact HI0.out | apply IsS96.alloc | apply IsS96.drewN | apply IsS96.drew | apply IsS96.set_0 | apply IsS96.set_1) | exact HI0.out)); (case side2 => repeat (first | (with_reducible first | exact HB.out | apply bA_ | apply bN_ | apply bD_ | refine below_set ?_ (IsS96.ge HI0.out)) | exact HB.out)); rintro e w16 ⟨rfl, hi, hb, hk⟩; replace HK := aM_ (KeepBut.trans (kp_ HK) hk (.inl rfl)); replace HB := aM_ (hb); replace HI0 := aM_ (hi); (try clear hb); (try clear hk); (try clear hi)))
      go_roundg k1
      case measure => have := HK1.out; omega
      case rel => exact ⟨(Go.bits .or .i64 x5_1 (ji8)), (wrap64 (x6_1 + 1)), (t102), (t103), (by first | rfl | (simp; done) | (simp only [← hji8] <;> (first | rfl | simp)) | (simp [*]; done)), veq_, H', ⟨by have := HK1.out; omega⟩, ⟨by repeat (first | (with_reducible first | exact HI0.out | apply IsS96.alloc | apply IsS96.drewN | apply IsS96.drew | apply IsS96.set_0 | apply IsS96.set_1) | exact HI0.out)⟩, ⟨kp_ HK⟩, ⟨bI_ HB (IsS96.ge HI0.out)⟩⟩
    ·have c6b0 : ((Go.bits .and .i64 (ji5) 1) == 1) = false := beq_eq_false_iff_ne.mpr c6
     have c6b1 : ((Go.bits .and .i64 (ji5) 1) != 1) = true := bne_iff_ne.mpr c6
     have H' := aM_ H
     clear H
     obtain ⟨HGz17, hgz17⟩ := HI0.out
     have hcz17_0 := cellS96_0 HGz17
     have hfz17_0 := blk_frozen HGz17 0
     have hfz17_1 := blk_frozen HGz17 1
     clear HGz17 hgz17
     go_wp2
     go_roundg k1
     case measure => have := HK1.out; omega
     case rel => exact ⟨(x5_1), (wrap64 (x6_1 + 1)), (x1000_1), (x1001_1), veq_, veq_, H', ⟨by have := HK1.out; omega⟩, ⟨by repeat (first | (with_reducible first | exact HI0.out | apply IsS96.alloc | apply IsS96.drewN | apply IsS96.drew | apply IsS96.set_0 | apply IsS96.set_1) | exact HI0.out)⟩, ⟨kp_ HK⟩, ⟨bI_ HB (IsS96.ge HI0.out)⟩⟩
   ·simp only [Option.some.injEq, Prod.mk.injEq] at H
    obtain ⟨rfl, rfl, rfl⟩ := H
    obtain ⟨HGz18, hgz18⟩ := HI0.out
    have hcz18_0 := cellS96_0 HGz18
    have hfz18_0 := blk_frozen HGz18 0
    have hfz18_1 := blk_frozen HGz18 1
    clear HGz18 hgz18
    go_wp2
    go_ret
    exact ⟨verr_, by repeat (first | (with_reducible first | exact HI0.out | apply IsS96.alloc | apply IsS96.drewN | apply IsS96.drew | apply IsS96.set_0 | apply IsS96.set_1) | exact HI0.out), bI_ HB (IsS96.ge HI0.out), kp_ HK⟩
end Go.Proofs.YteaagaekdkolnaaGreatDoor.P

namespace Go.Proofs.YteaagaekdkolnaaGreatDoor.P
open Go.RowKit Go.Proofs.YteaagaekdkolnaaGreatDoorW.PrintWords Go.Proofs.YteaagaekdkolnaaGreatDoorW.PrintLast Go.Proofs.YteaagaekdkolnaaGreatDoorW.PrintMore
attribute [local go_sem] max2_int min2_int max_two min_two max_three min_three max_four min_four   -- for this text's walks alone
set_option linter.unusedVariables false
set_option linter.unusedSimpArgs false
/-! ### impl_fullSet: function 83 -/
def impl_fullSet.f (a0 : Int) : Option (Int) := if 0 ≤ a0 then (some (wrap64 ((shl .i64 1 a0) - 1))) else (none)
set_option maxHeartbeats 8000000 in
set_option maxRecDepth 100000 in
theorem impl_fullSet.calls (a0 : Int) (r : Int) (w : World) (h : impl_fullSet.f a0 = some r) :
  Calls Tryz.prog 83 #[.int .i64 a0] w fun e w' => e = .returned (.int .i64 r) ∧ Drawn0 w w' := by
 have H : (if 0 ≤ a0 then (some (wrap64 ((shl .i64 1 a0) - 1))) else (none)) = some r := h
 clear h
 obtain ⟨c2, H⟩ := ifp_ H
 have c2b0 := eq_true c2
 have c2b1 := decide_eq_true c2
 clear c2
 obtain ⟨ji3, hji3⟩ : ∃ j_ : Int, (shl .i64 1 a0) = j_ := ⟨_, rfl⟩
 replace H : (some (wrap64 ((ji3) - 1))) = some r := by first | (rw [hji3] at H; exact H) | (simp only [hji3] at H ⊢; exact H)
 have hji3_ : (IntKind.i64.wrap (1 * 2 ^ min a0.toNat 64)) = ji3 := hji3
 have hji3z : a0 ≤ 64 → (IntKind.i64.wrap (1 * 2 ^ a0.toNat)) = ji3 := shl_small hji3
 have hji3u : (IntKind.i64.wrap (2 ^ min a0.toNat 64)) = ji3 := by have h_ := hji3_; rw [Int.one_mul] at h_; exact h_
 have hji3v : a0 ≤ 64 → (IntKind.i64.wrap (2 ^ a0.toNat)) = ji3 := fun hle_ => by have h_ := hji3z hle_; rw [Int.one_mul] at h_; exact h_
 have hji3y : (wrap64 (1 * 2 ^ min a0.toNat 64)) = ji3 := (i64_w _).symm.trans hji3_
 have hji3x : a0 ≤ 64 → (wrap64 (1 * 2 ^ a0.toNat)) = ji3 := fun h_ => (i64_w _).symm.trans (hji3z h_)
 obtain rfl := Option.some.inj H
 go_enter Tryz.func83, Tryz.ntmps83
 go_wp2
 go_ret
 exact ⟨by first | rfl | (simp; done) | (simp only [← hji3] <;> (first | rfl | simp)) | (simp [*]; done), by repeat (first | exact Drawn0.refl _ | apply Drawn0.step)⟩
end Go.Proofs.YteaagaekdkolnaaGreatDoor.P

namespace Go.Proofs.YteaagaekdkolnaaGreatDoor.P
open Go.RowKit Go.Proofs.YteaagaekdkolnaaGreatDoorW.PrintWords Go.Proofs.YteaagaekdkolnaaGreatDoorW.PrintLast Go.Proofs.YteaagaekdkolnaaGreatDoorW.PrintMore
attribute [local go_sem] max2_int min2_int max_two min_two max_three min_three max_four min_four   -- for this text's walks alone
set_option linter.unusedVariables false
set_option linter.unusedSimpArgs false
/-! ### impl_chi_left: function 84 -/
def leftN (T : Nat → Int) (i j : Int) (n : Nat) : Nat := (List.range n).countP fun m => T (i.toNat * 49 + j.toNat * 7 + m) == 1
def impl_chi_left.f (s0_0 : Int) (s0_1 : Nat → Int) (a1 a2 : Int) : Option (Int × Int × (Nat → Int)) := if (0 ≤ a1 ∧ a1 < 7) ∧ (0 ≤ a2 ∧ a2 < 7) ∧ 0 ≤ s0_0 ∧ s0_0 ≤ 7 then some ((leftN s0_1 a1 a2 s0_0.toNat : Nat), s0_0, s0_1) else none
set_option maxHeartbeats 8000000 in
set_option maxRecDepth 100000 in
theorem impl_chi_left.calls (g : Nat) (s0_0 : Int) (s0_1 : Nat → Int) (a1 a2 : Int) (r1 : Int) (r2 : Int) (r3 : Nat → Int) (w0 w : World) (hI : IsS96 w0 w g s0_0 s0_1) (hB : Below w0.heap.size w0 w) (h : impl_chi_left.f s0_0 s0_1 a1 a2 = some (r1, r2, r3)) :
  Calls Tryz.prog 84 #[.pointer (some ⟨g, 0, none⟩), .int .i64 a1, .int .i64 a2] w fun e w' => e = .returned (.int .i64 r1) ∧ IsS96 w0 w' g r2 r3 ∧ Below w0.heap.size w0 w' ∧ KeepBut w w' g none := by
 unfold impl_chi_left.f at h
 by_cases hc : (0 ≤ a1 ∧ a1 < 7) ∧ (0 ≤ a2 ∧ a2 < 7) ∧ 0 ≤ s0_0 ∧ s0_0 ≤ 7
 case neg => rw [if_neg hc] at h; cases h
 rw [if_pos hc] at h
 simp only [Option.some.injEq, Prod.mk.injEq] at h
 obtain ⟨rfl, rfl, rfl⟩ := h
 obtain ⟨hi, hj, hn⟩ := hc
 suffices hs : Calls Tryz.prog 84 #[.pointer (some ⟨g, 0, none⟩), .int .i64 a1, .int .i64 a2] w fun e w' => e = .returned (.int .i64 (leftN s0_1 a1 a2 s0_0.toNat : Nat)) ∧ w' = w by
  refine hs.mono ?_
  rintro e w' ⟨he, rfl⟩
  exact ⟨he, hI, hB, KeepBut.refl _ g none⟩
 have HT := aM_ (chi_at7 hI)
 have hx0 := cellS96_0 hI.1
 have I58 := chi_ix58 g a1 hi
 have I57 := chi_ix57 g a2 hj
 have HI := aM_ hi
 have HJ := aM_ hj
 have HN := aM_ hn
 clear hI hB hi hj hn
 go_enter Tryz.func84, Tryz.ntmps84
 go_wp2
 go_loopg [7, 8] 7 (fun gg v7 v8 w' => ∃ (x : Int) (ix : Nat), v8 = .int .i64 x ∧ v7 = .int .i64 (leftN s0_1 a1 a2 ix : Nat) ∧ Aside0 (x = (ix : Int)) ∧ Aside0 ((ix : Int) ≤ s0_0) ∧ Aside0 (gg + ix = 7) ∧ w' = w)
 case atStart => exact ⟨0, 0, rfl, rfl, ⟨rfl⟩, ⟨by have := HN.out; omega⟩, ⟨rfl⟩, rfl⟩
 case round =>
  obtain ⟨x, ix, rfl, rfl, HX, HL, HG, rfl⟩ := hrel
  by_cases c : x < s0_0
  ·have c0 : decide (x < s0_0) = true := decide_eq_true c
   have hix : 0 ≤ x ∧ x < 7 := by have := HX.out; have := HN.out; omega
   have I56 := chi_ix56 g x hix
   have hcell := HT.out a1 a2 x HI.out HJ.out hix
   have HS := aM_ (show leftN s0_1 a1 a2 (ix + 1) = leftN s0_1 a1 a2 ix + if s0_1 (a1.toNat * 49 + a2.toNat * 7 + ix) == 1 then 1 else 0 by
    unfold leftN
    rw [List.range_succ, List.countP_append, List.countP_cons, List.countP_nil]; simp)
   have HLE := aM_ (show leftN s0_1 a1 a2 ix ≤ ix by unfold leftN; exact Nat.le_trans List.countP_le_length (by simp))
   have HXN := aM_ (show x.toNat = ix by have := HX.out; omega)
   have HC := aM_ c
   obtain ⟨v, hv⟩ : ∃ v, s0_1 (a1.toNat * 49 + a2.toNat * 7 + x.toNat) = v := ⟨_, rfl⟩
   rw [hv] at hcell
   have HV := aM_ (show s0_1 (a1.toNat * 49 + a2.toNat * 7 + ix) = v by rw [← HXN.out]; exact hv)
   clear hix hv c
   by_cases cv : v = 1
   ·have cv0 : decide (v = 1) = true := decide_eq_true cv
    have cv1 : (v == 1) = true := by rw [cv]; rfl
    have HW := aM_ (show leftN s0_1 a1 a2 (ix + 1) = leftN s0_1 a1 a2 ix + 1 by rw [HS.out, HV.out, cv1]; rfl)
    clear cv
    go_wp2
    go_roundg (gk - 1)
    case measure => have := HG.out; have := HX.out; have := HC.out; have := HN.out; omega
    case rel => exact ⟨wrap64 (x + 1), ix + 1, by first | rfl | (simp; done), by rw [HW.out]; first | rfl | (have := HLE.out; have := HX.out; have := HC.out; have := HN.out; rw [show wrap64 ((leftN s0_1 a1 a2 ix : Int) + 1) = ((leftN s0_1 a1 a2 ix + 1 : Nat) : Int) by unfold wrap64; omega]), ⟨by have := HX.out; have := HC.out; have := HN.out; unfold wrap64; omega⟩, ⟨by have := HX.out; have := HC.out; omega⟩, ⟨by have := HG.out; have := HX.out; have := HC.out; have := HN.out; omega⟩, rfl⟩
   ·have cv0 : decide (v = 1) = false := decide_eq_false cv
    have cv1 : (v == 1) = false := by rw [beq_eq_false_iff_ne]; exact cv
    have HW := aM_ (show leftN s0_1 a1 a2 (ix + 1) = leftN s0_1 a1 a2 ix by rw [HS.out, HV.out, cv1]; rfl)
    clear cv
    go_wp2
    go_roundg (gk - 1)
    case measure => have := HG.out; have := HX.out; have := HC.out; have := HN.out; omega
    case rel => exact ⟨wrap64 (x + 1), ix + 1, by first | rfl | (simp; done), by rw [HW.out], ⟨by have := HX.out; have := HC.out; have := HN.out; unfold wrap64; omega⟩, ⟨by have := HX.out; have := HC.out; omega⟩, ⟨by have := HG.out; have := HX.out; have := HC.out; have := HN.out; omega⟩, rfl⟩
  ·have c0 : decide (x < s0_0) = false := decide_eq_false c
   have HE := aM_ (show ix = s0_0.toNat by have := HX.out; have := HL.out; omega)
   clear c
   go_wp2
   go_ret
   exact ⟨by first | (rw [HE.out]; rfl) | rfl, rfl⟩
end Go.Proofs.YteaagaekdkolnaaGreatDoor.P

namespace Go.Proofs.YteaagaekdkolnaaGreatDoor.P
open Go.RowKit Go.Proofs.YteaagaekdkolnaaGreatDoorW.PrintWords Go.Proofs.YteaagaekdkolnaaGreatDoorW.PrintLast Go.Proofs.YteaagaekdkolnaaGreatDoorW.PrintMore
attribute [local go_sem] max2_int min2_int max_two min_two max_three min_three max_four min_four   -- for this text's walks alone
set_option linter.unusedVariables false
set_option linter.unusedSimpArgs false
/-! ### impl_chi_hull: function 67 -/
mutual
def impl_chi_hull.l0 : Nat → List Int → List Int → Int → (Nat → Int) → Option (List Int × Int × (Nat → Int))
 | 0, _, _, _, _ => none
 | k + 1, x3, x4, x1000, x1001 => if (x4.length : Int) < (x3.length : Int) then (if 0 ≤ (wrap64 ((x4.length : Int) - 1)) then (if (wrap64 ((x4.length : Int) - 1)) < (x4.length : Int) then (impl_chi_hull.l1 k x3 x4 (rd x4 (wrap64 ((x4.length : Int) - 1))) x3 (x3.length : Int) 0 x1000 x1001) else (none)) else (none)) else (some (x4, x1000, x1001))
def impl_chi_hull.l1 : Nat → List Int → List Int → Int → List Int → Int → Int → Int → (Nat → Int) → Option (List Int × Int × (Nat → Int))
 | 0, _, _, _, _, _, _, _, _ => none
 | k + 1, x3, x4, x5, x31, x32, x33, x1000, x1001 => if x33 < x32 then (if 0 ≤ x33 then (if x33 < (x31.length : Int) then (if (rd x31 x33) = x5 then (impl_chi_hull.l1 k x3 x4 x5 x31 x32 (wrap64 (x33 + 1)) x1000 x1001) else ((impl_chi_left.f x1000 x1001 (rd x31 x33) x5).bind fun bt114 => (if bt114.1 = 0 then (if x4.length < 17592186044416 then (impl_chi_hull.l0 k x3 (x4 ++ [rd x31 x33]) bt114.2.1 bt114.2.2) else (none)) else (impl_chi_hull.l1 k x3 x4 x5 x31 x32 (wrap64 (x33 + 1)) bt114.2.1 bt114.2.2)))) else (none)) else (none)) else (impl_chi_hull.l0 k x3 x4 x1000 x1001)
end
def impl_chi_hull.f (k : Nat) (s0_0 : Int) (s0_1 : (Nat → Int)) : Option (List Int × Int × (Nat → Int)) := (impl_fullSet.f s0_0).bind fun t101 => ((impl_chi_extremeIn.f k s0_0 s0_1 t101).bind fun bt102 => ((impl_elementsOf.f k bt102.1).bind fun t105 => (if 0 < (t105.length : Int) then (impl_chi_hull.l0 k t105 (([rd t105 0] : List Int)) bt102.2.1 bt102.2.2) else (none))))
set_option maxHeartbeats 8000000 in
set_option maxRecDepth 100000 in
theorem impl_chi_hull.calls (k : Nat) (g : Nat) (s0_0 : Int) (s0_1 : (Nat → Int)) (r1 : List Int) (r2 : Int) (r3 : (Nat → Int)) (w0 w : World) (hI : IsS96 w0 w g s0_0 s0_1) (hB : Below w0.heap.size w0 w) (h : impl_chi_hull.f k s0_0 s0_1 = some (r1, r2, r3)) :
  Calls Tryz.prog 67 #[.pointer (some ⟨g, 0, none⟩)] w fun e w' => ∃ v0_ : Value, e = .returned (v0_) ∧ Kd.R (Kd.int .i64) 3 w' w.heap.size (fun _ => True) v0_ r1 ∧ IsS96 w0 w' g r2 r3 ∧ Below w0.heap.size w0 w' ∧ KeepBut w w' g none := by
 have HI0 := aM_ hI
 have HK := aM_ (KeepBut.refl w g none)
 have HL := aM_ hB.size
 clear hI
 have HW0 := aM_ hB.size
 have HB := aM_ hB
 clear hB
 have H : ((impl_fullSet.f s0_0).bind fun t101 => ((impl_chi_extremeIn.f k s0_0 s0_1 t101).bind fun bt102 => ((impl_elementsOf.f k bt102.1).bind fun t105 => (if 0 < (t105.length : Int) then (impl_chi_hull.l0 k t105 (([rd t105 0] : List Int)) bt102.2.1 bt102.2.2) else (none))))) = some (r1, r2, r3) := h
 clear h
 replace H := oB_ H
 obtain ⟨t101, A20, H⟩ := H
 replace H : ((impl_chi_extremeIn.f k s0_0 s0_1 t101).bind fun bt102 => ((impl_elementsOf.f k bt102.1).bind fun t105 => (if 0 < (t105.length : Int) then (impl_chi_hull.l0 k t105 (([rd t105 0] : List Int)) bt102.2.1 bt102.2.2) else (none)))) = some (r1, r2, r3) := H
 have A2 := aM_ A20
 clear A20
 replace H := oB_ H
 obtain ⟨⟨t102, t103, t104⟩, A30, H⟩ := H
 replace H : ((impl_elementsOf.f k t102).bind fun t105 => (if 0 < (t105.length : Int) then (impl_chi_hull.l0 k t105 (([rd t105 0] : List Int)) t103 t104) else (none))) = some (r1, r2, r3) := H
 have A3 := aM_ A30
 clear A30
 replace H := oB_ H
 obtain ⟨t105, A40, H⟩ := H
 replace H : (if 0 < (t105.length : Int) then (impl_chi_hull.l0 k t105 (([rd t105 0] : List Int)) t103 t104) else (none)) = some (r1, r2, r3) := H
 have A4 := aM_ A40
 clear A40
 obtain ⟨c5, H⟩ := ifp_ H
 have c5b0 := decide_eq_true c5
 have c5b1 : decide (0 < t105.length) = true := decide_eq_true (by omega)
 clear c5
 obtain ⟨y109, hy109⟩ : ∃ y_ : List Int, y_ = (([rd t105 0] : List Int)) := ⟨_, rfl⟩
 replace H : (impl_chi_hull.l0 k t105 y109 t103 t104) = some (r1, r2, r3) := by first | (rw [hy109]; with_reducible exact H) | (have H2_ := (Option.bind_some _ _).symm.trans H; rw [hy109]; with_reducible exact H2_) | (have H2_ := (Option.bind_some _ _).symm.trans H; with_reducible exact H2_) | with_reducible exact H | (rw [hy109]; exact H) | exact H
 have Ny109 := aM_ hy109
 clear hy109
 have H' := aM_ H
 clear H
 obtain ⟨HGz6, hgz6⟩ := HI0.out
 have hcz6_0 := cellS96_0 HGz6
 have hfz6_0 := blk_frozen HGz6 0
 have hfz6_1 := blk_frozen HGz6 1
 clear HGz6 hgz6
 go_enter Tryz.func67, Tryz.ntmps67
 go_wp2_with (first | ((with_reducible refine gate_callee (f := 83) rfl ?_); refine goesM_ (some 13) Tryz.func83 #[.int .i64 s0_0] ?_; (with_reducible refine (impl_fullSet.calls s0_0 t101 _ A2.out).mono ?_); rintro e w' ⟨rfl, ⟨nd, rfl⟩⟩; refine ⟨_, rfl, ?_⟩) | ((with_reducible refine gate_callee (f := 82) rfl ?_); refine goesM_ (some 14) Tryz.func82 #[.pointer (some ⟨g, 0, none⟩), .int .i64 t101] ?_; (with_reducible refine (impl_chi_extremeIn.calls k g s0_0 s0_1 t101 t102 t103 t104 w0 _ ?side1 ?side2 A3.out).mono ?_); (case side1 => repeat (first | (with_reducible first | exact HI0.out | apply IsS96.alloc | apply IsS96.drewN | apply IsS96.drew | apply IsS96.set_0 | apply IsS96.set_1) | exact HI0.out)); (case side2 => repeat (first | (with_reducible first | exact HB.out | apply bA_ | apply bN_ | apply bD_ | refine below_set ?_ (IsS96.ge HI0.out)) | exact HB.out)); rintro e w7 ⟨rfl, hi, hb, hk⟩; refine ⟨_, rfl, ?_⟩; replace HK := aM_ (KeepBut.trans (kp_ HK) hk (.inl rfl)); replace HB := aM_ (hb); replace HI0 := aM_ (hi); (try clear hb); (try clear hk); (try clear hi)) | ((with_reducible refine gate_callee (f := 81) rfl ?_); refine goesM_ (some 15) Tryz.func81 #[.int .i64 t102] ?_; (with_reducible refine (impl_elementsOf.calls k t102 t105 _ A4.out).mono ?_); rintro e w8 ⟨v106, rfl, ho0, hb⟩; refine ⟨_, rfl, ?_⟩; have HO107 := aM_ (Kd.R_lower ho0 (keep_size (w := w) (g := g) (row := none) (kp_ HK))); replace HK := aM_ (KeepBut.trans (kp_ HK) (KeepBut.of_below hb g none) (.inl rfl)); replace HB := aM_ (below_step (bI_ HB (IsS96.ge HI0.out)) hb); replace HI0 := aM_ (IsS96.below (by repeat (first | (with_reducible first | exact HI0.out | apply IsS96.alloc | apply IsS96.drewN | apply IsS96.drew | apply IsS96.set_0 | apply IsS96.set_1) | exact HI0.out)) hb); (try clear hb); (try clear hk); (try clear hi); (try clear ho0); obtain ⟨Ao9, co9, eo9⟩ := Kd.R_slice HO107.out; subst eo9; have p108 : 0 ≤ (0 : Int) := (by omega); have q108 : 0 < (t105.length : Int) := ode_; obtain ⟨ad108, e108, hx108_0⟩ := Kd.at_int (Kd.R_reads' HO107.out).2.2 0 p108 q108; cases e108; have qi108 : (0 < t105.length) = True := eq_true (by omega); (try rw [show ((0 : Int)).toNat = 0 from rfl] at hx108_0); (try rw [Addr.add_zero'] at hx108_0); replace p108 := eq_true p108; replace q108 := eq_true q108) | ((with_reducible refine gate_dst (N := 19) rfl ?_); refine Kd.R_lit (Kd.int .i64) _ 3 ?hg (N := 19) ?hd (xs := ([rd t105 0] : List Int)) (inner := [.int .i64 (rd t105 0)]) (ok := fun _ => True) (okp := fun _ => True) ?hr ?hp (fun _ hk => hk) trivial (Below.refl _ _) (Nat.le_refl _) (by simp) ?_; (case hd => rfl); (case hg => rfl); (case hr => first | (go_simp; done) | (go_simp; rfl)); (case hp => exact (Reps.one (show Kd.M (Kd.int .i64) _ _ _ (rd t105 0) [.int .i64 (rd t105 0)] from rfl) (Reps.none _ _))); intro v110 w10 ho11 hb hg_ hnew_; clear hg_ hnew_; (first | rw [← Ny109.out] at ho11 | (simp only [Int.reduceToNat] at ho11; rw [← Ny109.out] at ho11)); have HO111 := aM_ (Kd.R_lower (Kd.R_new' ho11 (Kd.R_lt (kr_ HO107))) (keep_size (w := w) (g := g) (row := none) (kp_ HK))); replace HO107 := aM_ (Kd.R_elder' (kr_ HO107) (Kd.R_base ho11) hb); replace HK := aM_ (KeepBut.trans (kp_ HK) (KeepBut.of_below hb g none) (.inl rfl)); replace HB := aM_ (below_step (bI_ HB (IsS96.ge HI0.out)) hb); replace HI0 := aM_ (IsS96.below (by repeat (first | (with_reducible first | exact HI0.out | apply IsS96.alloc | apply IsS96.drewN | apply IsS96.drew | apply IsS96.set_0 | apply IsS96.set_1) | exact HI0.out)) hb); clear hb ho11))
 go_loopg [4] k (fun kq v4 w' => ∃ (x4_1 : List Int) (x1000_1 : Int) (x1001_1 : (Nat → Int)), Aside0 (impl_chi_hull.l0 kq t105 x4_1 x1000_1 x1001_1 = some (r1, r2, r3)) ∧ Aside0 (kq ≤ k) ∧ Aside0 (Kd.R (Kd.int .i64) 3 w' w.heap.size (fun k_ => some k_ ≠ (v4 : Value).ownBlock) (.slice (some ad108) t105.length co9) t105) ∧ Aside0 (Kd.R (Kd.int .i64) 3 w' w.heap.size (fun k_ => some k_ ≠ ((.slice (some ad108) t105.length co9) : Value).ownBlock) v4 x4_1) ∧ Aside0 (IsS96 w0 w' g x1000_1 x1001_1) ∧ Aside0 (KeepBut w w' g none) ∧ Aside0 (Below w0.heap.size w0 w'))
 case atStart => exact ⟨(y109), (t103), (t104), H', ⟨Nat.le_refl _⟩, ⟨by (with_reducible repeat (first | apply kA_ | apply kN_ | apply kD_)); exact Kd.R_mono HO107.out (fun _ hk => hk.2)⟩, ⟨by (with_reducible repeat (first | apply kA_ | apply kN_ | apply kD_)); exact Kd.R_mono HO111.out (fun _ hk => hk.2)⟩, ⟨by repeat (first | (with_reducible first | exact HI0.out | apply IsS96.alloc | apply IsS96.drewN | apply IsS96.drew | apply IsS96.set_0 | apply IsS96.set_1) | exact HI0.out)⟩, ⟨kp_ HK⟩, ⟨bI_ HB (IsS96.ge HI0.out)⟩⟩
 case round =>
  clear H'
  try clear c5
  try clear c5b0
  try clear c5b1
  try clear hcz6_0
  try clear hfz6_0
  try clear hfz6_1
  try clear hx108_0
  try clear p108
  try clear q108
  obtain ⟨x4_1, x1000_1, x1001_1, HA, HK1, HO_3, HO_4, HI0, HK, HB⟩ := hrel
  cases gk with
  | zero => exact absurd HA.out (by simp [impl_chi_hull.l0])
  | succ k1 =>
   have H := HA.out
   clear HA
   simp only [impl_chi_hull.l0] at H
   rcases ifc_ H with ⟨c12, H⟩ | ⟨c12, H⟩
   ·have c12b0 := decide_eq_true c12
    have c12b1 : decide (x4_1.length < t105.length) = true := decide_eq_true (Int.ofNat_lt.mp c12)
    clear c12
    obtain ⟨ji13, hji13⟩ : ∃ j_ : Int, (wrap64 ((x4_1.length : Int) - 1)) = j_ := ⟨_, rfl⟩
    replace H : (if 0 ≤ (ji13) then (if (ji13) < (x4_1.length : Int) then (impl_chi_hull.l1 k1 t105 x4_1 (rd x4_1 (ji13)) t105 (t105.length : Int) 0 x1000_1 x1001_1) else (none)) else (none)) = some (r1, r2, r3) := by first | (rw [hji13] at H; exact H) | (simp only [hji13] at H ⊢; exact H)
    have hji13w : (IntKind.i64.wrap ((x4_1.length : Int) - 1)) = ji13 := (i64_w _).trans hji13
    obtain ⟨c14b0, H⟩ := ifn_ H
    obtain ⟨c15b0, H⟩ := ifn_ H
    have H' := aM_ H
    clear H
    obtain ⟨Ao16, co16, eo16⟩ := Kd.R_slice HO_4.out
    subst eo16
    obtain ⟨p112, q112, ad112, e112, hx112_0⟩ := atW_ (Kd.at_int (Kd.R_reads' HO_4.out).2.2 (ji13))
    cases e112
    go_wp2
    go_loopg [4, 33] k1 (fun kq v4 v33 w' => ∃ (x4_2 : List Int) (x33_2 : Int) (x1000_2 : Int) (x1001_2 : (Nat → Int)), v33 = .int .i64 x33_2 ∧ Aside0 (impl_chi_hull.l1 kq t105 x4_2 (rd x4_1 (ji13)) t105 (t105.length : Int) x33_2 x1000_2 x1001_2 = some (r1, r2, r3)) ∧ Aside0 (kq ≤ k1) ∧ Aside0 (Kd.R (Kd.int .i64) 3 w' w.heap.size (fun k_ => some k_ ≠ (v4 : Value).ownBlock) (.slice (some ad108) t105.length co9) t105) ∧ Aside0 (Kd.R (Kd.int .i64) 3 w' w.heap.size (fun k_ => some k_ ≠ ((.slice (some ad108) t105.length co9) : Value).ownBlock ∧ some k_ ≠ ((.slice (some ad108) t105.length co9) : Value).ownBlock) v4 x4_2) ∧ Aside0 (Kd.R (Kd.int .i64) 3 w' w.heap.size (fun k_ => some k_ ≠ (v4 : Value).ownBlock) (.slice (some ad108) t105.length co9) t105) ∧ Aside0 (IsS96 w0 w' g x1000_2 x1001_2) ∧ Aside0 (KeepBut w w' g none) ∧ Aside0 (Below w0.heap.size w0 w'))
    case atStart => exact ⟨(x4_1), (0), (x1000_1), (x1001_1), veq_, H', ⟨Nat.le_refl _⟩, ⟨kr_ HO_3⟩, ⟨by (with_reducible repeat (first | apply kA_ | apply kN_ | apply kD_)); exact Kd.R_mono HO_4.out (fun _ hk => ⟨hk, hk⟩)⟩, ⟨kr_ HO_3⟩, ⟨by repeat (first | (with_reducible first | exact HI0.out | apply IsS96.alloc | apply IsS96.drewN | apply IsS96.drew | apply IsS96.set_0 | apply IsS96.set_1) | exact HI0.out)⟩, ⟨kp_ HK⟩, ⟨bI_ HB (IsS96.ge HI0.out)⟩⟩
    case round =>
     clear H'
     try clear c5
     try clear c5b0
     try clear c5b1
     try clear c12
     try clear c12b0
     try clear c12b1
     try clear c14b0
     try clear c15b0
     try clear hcz6_0
     try clear hfz6_0
     try clear hfz6_1
     try clear hx108_0
     try clear hx112_0
     try clear p108
     try clear p112
     try clear q108
     try clear q112
     obtain ⟨x4_2, x33_2, x1000_2, x1001_2, rfl, HA, HK2, HO_3, HO_4, HO_31, HI0, HK, HB⟩ := hrel
     cases gk with
     | zero => exact absurd HA.out (by simp [impl_chi_hull.l1])
     | succ k2 =>
      have H := HA.out
      clear HA
      simp only [impl_chi_hull.l1] at H
      rcases ifd_ H with ⟨c17b0, H⟩ | ⟨c17b0, H⟩
      ·obtain ⟨c18b0, H⟩ := ifn_ H
       obtain ⟨c19b0, H⟩ := ifn_ H
       rcases ifc_ H with ⟨c20, H⟩ | ⟨c20, H⟩
       ·have c20b0 : ((rd t105 x33_2) == (rd x4_1 (ji13))) = true := beq_iff_eq.mpr c20
        have c20b1 : ((rd t105 x33_2) != (rd x4_1 (ji13))) = false := bne_eq_false_iff_eq.mpr c20
        clear c20
        have H' := aM_ H
        clear H
        obtain ⟨p113, q113, ad113, e113, hx113_0⟩ := atW_ (Kd.at_int (Kd.R_reads' HO_31.out).2.2 x33_2)
        obtain rfl : ad108 = ad113 := (by injection e113)
        go_wp2
        go_roundg k2
        case measure => have := HK1.out; have := HK2.out; omega
        case rel => exact ⟨(x4_2), (wrap64 (x33_2 + 1)), (x1000_2), (x1001_2), veq_, H', ⟨by have := HK1.out; have := HK2.out; omega⟩, ⟨kr_ HO_3⟩, ⟨kr_ HO_4⟩, ⟨kr_ HO_31⟩, ⟨by repeat (first | (with_reducible first | exact HI0.out | apply IsS96.alloc | apply IsS96.drewN | apply IsS96.drew | apply IsS96.set_0 | apply IsS96.set_1) | exact HI0.out)⟩, ⟨kp_ HK⟩, ⟨bI_ HB (IsS96.ge HI0.out)⟩⟩
       ·have c20b0 : ((rd t105 x33_2) == (rd x4_1 (ji13))) = false := beq_eq_false_iff_ne.mpr c20
        have c20b1 : ((rd t105 x33_2) != (rd x4_1 (ji13))) = true := bne_iff_ne.mpr c20
        replace H := oB_ H
        obtain ⟨⟨t114, t115, t116⟩, A210, H⟩ := H
        replace H : (if t114 = 0 then (if x4_2.length < 17592186044416 then (impl_chi_hull.l0 k2 t105 (x4_2 ++ [rd t105 x33_2]) t115 t116) else (none)) else (impl_chi_hull.l1 k2 t105 x4_2 (rd x4_1 (ji13)) t105 (t105.length : Int) (wrap64 (x33_2 + 1)) t115 t116)) = some (r1, r2, r3) := H
        have A21 := aM_ A210
        clear A210
        rcases ifc_ H with ⟨c22, H⟩ | ⟨c22, H⟩
        ·have c22b0 : (t114 == 0) = true := beq_iff_eq.mpr c22
         have c22b1 : (t114 != 0) = false := bne_eq_false_iff_eq.mpr c22
         clear c22
         obtain ⟨c23, H⟩ := ifp_ H
         have LMc23 := aM_ c23
         clear c23
         obtain ⟨y117, hy117⟩ : ∃ y_ : List Int, y_ = (x4_2 ++ [rd t105 x33_2]) := ⟨_, rfl⟩
         replace H : (impl_chi_hull.l0 k2 t105 y117 t115 t116) = some (r1, r2, r3) := by first | (rw [hy117]; with_reducible exact H) | (have H2_ := (Option.bind_some _ _).symm.trans H; rw [hy117]; with_reducible exact H2_) | (have H2_ := (Option.bind_some _ _).symm.trans H; with_reducible exact H2_) | with_reducible exact H | (rw [hy117]; exact H) | exact H
         have Ny117 := aM_ hy117
         clear hy117
         have H' := aM_ H
         clear H
         obtain ⟨p113, q113, ad113, e113, hx113_0⟩ := atW_ (Kd.at_int (Kd.R_reads' HO_31.out).2.2 x33_2)
         obtain rfl : ad108 = ad113 := (by injection e113)
         go_wp2_with (first | (go_at_call 84; (with_reducible refine (impl_chi_left.calls g x1000_2 x1001_2 (rd t105 x33_2) (rd x4_1 (ji13)) t114 t115 t116 w0 _ ?side1 ?side2 A21.out).mono ?_); (case side1 => repeat (first | (with_reducible first | exact HI0.out | apply IsS96.alloc | apply IsS96.drewN | apply IsS96.drew | apply IsS96.set_0 | apply IsS96.set_1) | exact HI0.out)); (case side2 => repeat (first | (with_reducible first | exact HB.out | apply bA_ | apply bN_ | apply bD_ | refine below_set ?_ (IsS96.ge HI0.out)) | exact HB.out)); rintro e w24 ⟨rfl, hi, hb, hk⟩; replace HO_3 := aM_ (Kd.R_mono (Kd.R_keep (IsS96.apart (show IsS96 w0 _ g x1000_2 x1001_2 from by repeat (first | (with_reducible first | exact HI0.out | apply IsS96.alloc | apply IsS96.drewN | apply IsS96.drew | apply IsS96.set_0 | apply IsS96.set_1) | exact HI0.out)) (kr_ HO_3) (by decide)) hk (fun _ h => h.2)) (fun _ h => h.1)); replace HO_4 := aM_ (Kd.R_mono (Kd.R_keep (IsS96.apart (show IsS96 w0 _ g x1000_2 x1001_2 from by repeat (first | (with_reducible first | exact HI0.out | apply IsS96.alloc | apply IsS96.drewN | apply IsS96.drew | apply IsS96.set_0 | apply IsS96.set_1) | exact HI0.out)) (kr_ HO_4) (by decide)) hk (fun _ h => h.2)) (fun _ h => h.1)); replace HO_31 := aM_ (Kd.R_mono (Kd.R_keep (IsS96.apart (show IsS96 w0 _ g x1000_2 x1001_2 from by repeat (first | (with_reducible first | exact HI0.out | apply IsS96.alloc | apply IsS96.drewN | apply IsS96.drew | apply IsS96.set_0 | apply IsS96.set_1) | exact HI0.out)) (kr_ HO_31) (by decide)) hk (fun _ h => h.2)) (fun _ h => h.1)); replace HK := aM_ (KeepBut.trans (kp_ HK) hk (.inl rfl)); replace HB := aM_ (hb); replace HI0 := aM_ (hi); (try clear hb); (try clear hk); (try clear hi)) | ((with_reducible refine gate_builtin (b := .append) (xs := #[.tmp 47, .tmp 49]) rfl ?_); at_builtin; refine Kd.R_append (Kd.int .i64) w.heap.size rfl (.tmp 47) (.tmp 49) 48 3 (.int .i64 0) 8 rfl Tryz.underlying48 info3 rfl (by decide) (by omega) u4 x4_2 (rd t105 x33_2) [.int .i64 (rd t105 x33_2)] (fun k_ => some k_ ≠ (.slice (some ad108) t105.length co9 : Value).ownBlock ∧ some k_ ≠ (.slice (some ad108) t105.length co9 : Value).ownBlock) (fun _ => False) rfl rfl ?aP (fun _ hk => hk.elim) ?aF ?aO (Below.refl _ _) ?aS ?aL ?_; (case aP => exact rfl); (case aF => exact (fun k_ hk => ⟨Kd.fresh' (Kd.R_lt (kr_ HO_3)) k_ hk, Kd.fresh' (Kd.R_lt (kr_ HO_31)) k_ hk⟩)); (case aO => exact (kr_ HO_4)); (case aS => exact (keep_size (w := w) (g := g) (row := none) (kp_ HK))); (case aL => have := LMc23.out; omega); intro v118 w25 ho hb hg hat; rw [← Ny117.out] at ho; replace HO_3 := aM_ (Kd.R_after (ok := (fun _ => True)) (by (with_reducible repeat (first | apply kA_ | apply kN_ | apply kD_)); exact Kd.R_mono HO_3.out (fun _ hk => ⟨trivial, hk⟩)) hg hat); replace HO_31 := aM_ (Kd.R_after (ok := (fun _ => True)) (by (with_reducible repeat (first | apply kA_ | apply kN_ | apply kD_)); exact Kd.R_mono HO_31.out (fun _ hk => ⟨trivial, hk⟩)) hg hat); replace HB := aM_ (below_weaken (bI_ HB (IsS96.ge HI0.out)) HL.out hb); replace HI0 := aM_ (IsS96.grown (by repeat (first | (with_reducible first | exact HI0.out | apply IsS96.alloc | apply IsS96.drewN | apply IsS96.drew | apply IsS96.set_0 | apply IsS96.set_1) | exact HI0.out)) hg (IsS96.own_ne HI0.out HO_4.out (by decide))); replace HK := aM_ (KeepBut.trans (kp_ HK) (KeepBut.of_grown hg g) (Kd.R_base2 HO_4.out)); have HO119 := aM_ (ho); clear HO_4; clear ho hb hg hat))
         go_roundg k2
         case measure => have := HK1.out; have := HK2.out; omega
         case rel => exact ⟨(y117), (t115), (t116), H', ⟨by have := HK1.out; have := HK2.out; omega⟩, ⟨by (with_reducible repeat (first | apply kA_ | apply kN_ | apply kD_)); exact Kd.R_mono HO_3.out (fun _ hk => hk.2)⟩, ⟨by (with_reducible repeat (first | apply kA_ | apply kN_ | apply kD_)); exact Kd.R_mono HO119.out (fun _ hk => hk.1)⟩, ⟨by repeat (first | (with_reducible first | exact HI0.out | apply IsS96.alloc | apply IsS96.drewN | apply IsS96.drew | apply IsS96.set_0 | apply IsS96.set_1) | exact HI0.out)⟩, ⟨kp_ HK⟩, ⟨bI_ HB (IsS96.ge HI0.out)⟩⟩
        ·have c22b0 : (t114 == 0) = false := beq_eq_false_iff_ne.mpr c22
         have c22b1 : (t114 != 0) = true := bne_iff_ne.mpr c22
         have H' := aM_ H
         clear H
         obtain ⟨p113, q113, ad113, e113, hx113_0⟩ := atW_ (Kd.at_int (Kd.R_reads' HO_31.out).2.2 x33_2)
         obtain rfl : ad108 = ad113 := (by injection e113)
         go_wp2_with (first | (go_at_call 84; (with_reducible refine (impl_chi_left.calls g x1000_2 x1001_2 (rd t105 x33_2) (rd x4_1 (ji13)) t114 t115 t116 w0 _ ?side1 ?side2 A21.out).mono ?_); (case side1 => repeat (first | (with_reducible first | exact HI0.out | apply IsS96.alloc | apply IsS96.drewN | apply IsS96.drew | apply IsS96.set_0 | apply IsS96.set_1) | exact HI0.out)); (case side2 => repeat (first | (with_reducible first | exact HB.out | apply bA_ | apply bN_ | apply bD_ | refine below_set ?_ (IsS96.ge HI0.out)) | exact HB.out)); rintro e w26 ⟨rfl, hi, hb, hk⟩; replace HO_3 := aM_ (Kd.R_mono (Kd.R_keep (IsS96.apart (show IsS96 w0 _ g x1000_2 x1001_2 from by repeat (first | (with_reducible first | exact HI0.out | apply IsS96.alloc | apply IsS96.drewN | apply IsS96.drew | apply IsS96.set_0 | apply IsS96.set_1) | exact HI0.out)) (kr_ HO_3) (by decide)) hk (fun _ h => h.2)) (fun _ h => h.1)); replace HO_4 := aM_ (Kd.R_mono (Kd.R_keep (IsS96.apart (show IsS96 w0 _ g x1000_2 x1001_2 from by repeat (first | (with_reducible first | exact HI0.out | apply IsS96.alloc | apply IsS96.drewN | apply IsS96.drew | apply IsS96.set_0 | apply IsS96.set_1) | exact HI0.out)) (kr_ HO_4) (by decide)) hk (fun _ h => h.2)) (fun _ h => h.1)); replace HO_31 := aM_ (Kd.R_mono (Kd.R_keep (IsS96.apart (show IsS96 w0 _ g x1000_2 x1001_2 from by repeat (first | (with_reducible first | exact HI0.out | apply IsS96.alloc | apply IsS96.drewN | apply IsS96.drew | apply IsS96.set_0 | apply IsS96.set_1) | exact HI0.out)) (kr_ HO_31) (by decide)) hk (fun _ h => h.2)) (fun _ h => h.1)); replace HK := aM_ (KeepBut.trans (kp_ HK) hk (.inl rfl)); replace HB := aM_ (hb); replace HI0 := aM_ (hi); (try clear hb); (try clear hk); (try clear hi)))
         go_roundg k2
         case measure => have := HK1.out; have := HK2.out; omega
         case rel => exact ⟨(x4_2), (wrap64 (x33_2 + 1)), (t115), (t116), veq_, H', ⟨by have := HK1.out; have := HK2.out; omega⟩, ⟨kr_ HO_3⟩, ⟨kr_ HO_4⟩, ⟨kr_ HO_31⟩, ⟨by repeat (first | (with_reducible first | exact HI0.out | apply IsS96.alloc | apply IsS96.drewN | apply IsS96.drew | apply IsS96.set_0 | apply IsS96.set_1) | exact HI0.out)⟩, ⟨kp_ HK⟩, ⟨bI_ HB (IsS96.ge HI0.out)⟩⟩
      ·have H' := aM_ H
       clear H
       go_wp2
       go_roundg k2
       case measure => have := HK1.out; have := HK2.out; omega
       case rel => exact ⟨(x4_2), (x1000_2), (x1001_2), H', ⟨by have := HK1.out; have := HK2.out; omega⟩, ⟨kr_ HO_3⟩, ⟨by (with_reducible repeat (first | apply kA_ | apply kN_ | apply kD_)); exact Kd.R_mono HO_4.out (fun _ hk => hk.1)⟩, ⟨by repeat (first | (with_reducible first | exact HI0.out | apply IsS96.alloc | apply IsS96.drewN | apply IsS96.drew | apply IsS96.set_0 | apply IsS96.set_1) | exact HI0.out)⟩, ⟨kp_ HK⟩, ⟨bI_ HB (IsS96.ge HI0.out)⟩⟩
   ·have c12b0 := decide_eq_false c12
    have c12b1 : decide (x4_1.length < t105.length) = false := decide_eq_false (fun h => c12 (Int.ofNat_lt.mpr h))
    clear c12
    simp only [Option.some.injEq, Prod.mk.injEq] at H
    obtain ⟨rfl, rfl, rfl⟩ := H
    obtain ⟨Ao27, co27, eo27⟩ := Kd.R_slice HO_4.out
    subst eo27
    go_wp2
    go_ret
    exact ⟨_, verr_, by (with_reducible repeat (first | apply kA_ | apply kN_ | apply kD_)); exact Kd.R_mono HO_4.out (fun _ hk => trivial), by repeat (first | (with_reducible first | exact HI0.out | apply IsS96.alloc | apply IsS96.drewN | apply IsS96.drew | apply IsS96.set_0 | apply IsS96.set_1) | exact HI0.out), bI_ HB (IsS96.ge HI0.out), kp_ HK⟩
end Go.Proofs.YteaagaekdkolnaaGreatDoor.P

namespace Go.Proofs.YteaagaekdkolnaaGreatDoor.P
open Go.RowKit Go.Proofs.YteaagaekdkolnaaGreatDoorW.PrintWords Go.Proofs.YteaagaekdkolnaaGreatDoorW.PrintLast Go.Proofs.YteaagaekdkolnaaGreatDoorW.PrintMore
attribute [local go_sem] max2_int min2_int max_two min_two max_three min_three max_four min_four   -- for this text's walks alone
set_option linter.unusedVariables false
set_option linter.unusedSimpArgs false
/-! ### impl_hullPoints: function 42 -/
def impl_hullPoints.l0 : Nat → List (S34) → List (S34) → List Int → Int → Int → Option ((List (S34)))
 | 0, _, _, _, _, _ => none
 | k + 1, x0, x5, x15, x16, x17 => if x17 < x16 then (if 0 ≤ x17 then (if x17 < (x15.length : Int) then (if 0 ≤ (rd x15 x17) then (if (rd x15 x17) < (x0.length : Int) then (if x5.length < 8796093022208 then (impl_hullPoints.l0 k x0 (x5 ++ [(⟨(rd_T34 x0 (rd x15 x17)).f0, (rd_T34 x0 (rd x15 x17)).f1⟩ : S34)]) x15 x16 (wrap64 (x17 + 1))) else (none)) else (none)) else (none)) else (none)) else (none)) else (some x5)
def impl_hullPoints.f (k : Nat) (l0 : List (S34)) : Option ((List (S34))) := (impl_SignsOf.f k l0).bind fun bt101 => ((impl_tableOf.f bt101.1 bt101.2.1).bind fun bt105 => ((impl_chi_hull.f k bt105.1 bt105.2).bind fun bt108 => (impl_hullPoints.l0 k l0 ([] : List (S34)) bt108.1 (bt108.1.length : Int) 0)))
set_option maxHeartbeats 8000000 in
set_option maxRecDepth 100000 in
theorem impl_hullPoints.calls (k : Nat) (A0 : Option Addr) (c0 : Nat) (l0 : List (S34)) (r : List (S34)) (w : World) (hr0 : Kd.C k34 w A0 l0.length l0) (hc0 : l0.length ≤ c0) (h : impl_hullPoints.f k l0 = some r) :
  Calls Tryz.prog 42 #[.slice A0 l0.length c0] w fun e w' => ∃ v0_ : Value, e = .returned (v0_) ∧ Kd.R k34 34 w' w.heap.size (fun _ => True) v0_ r ∧ Below w.heap.size w w' := by
 have hu45 := Tryz.underlying45
 have hu34 := Tryz.underlying34
 have HR0 := aM_ hr0
 have HC0 := aM_ hc0
 clear hr0 hc0
 have HB := aM_ (Below.refl w.heap.size w)
 have H : ((impl_SignsOf.f k l0).bind fun bt101 => ((impl_tableOf.f bt101.1 bt101.2.1).bind fun bt105 => ((impl_chi_hull.f k bt105.1 bt105.2).bind fun bt108 => (impl_hullPoints.l0 k l0 ([] : List (S34)) bt108.1 (bt108.1.length : Int) 0)))) = some r := h
 clear h
 replace H := oB_ H
 obtain ⟨⟨t101, t102, t103⟩, A20, H⟩ := H
 replace H : ((impl_tableOf.f t101 t102).bind fun bt105 => ((impl_chi_hull.f k bt105.1 bt105.2).bind fun bt108 => (impl_hullPoints.l0 k l0 ([] : List (S34)) bt108.1 (bt108.1.length : Int) 0))) = some r := H
 have A2 := aM_ A20
 clear A20
 replace H := oB_ H
 obtain ⟨⟨t105, t106⟩, A30, H⟩ := H
 replace H : ((impl_chi_hull.f k t105 t106).bind fun bt108 => (impl_hullPoints.l0 k l0 ([] : List (S34)) bt108.1 (bt108.1.length : Int) 0)) = some r := H
 have A3 := aM_ A30
 clear A30
 replace H := oB_ H
 obtain ⟨⟨t108, t111, t112⟩, A40, H⟩ := H
 replace H : (impl_hullPoints.l0 k l0 ([] : List (S34)) t108 (t108.length : Int) 0) = some r := H
 have A4 := aM_ A40
 clear A40
 have H' := aM_ H
 clear H
 go_enter Tryz.func42, Tryz.ntmps42
 go_wp2_with (first | ((with_reducible refine gate_callee (f := 65) rfl ?_); refine goesM_ (some 10) Tryz.func65 #[.slice A0 l0.length c0] ?_; (with_reducible refine (impl_SignsOf.calls k _ _ l0 t101 t102 t103 _ ?side1 ?side2 A2.out).mono ?_); (case side1 => repeat (first | exact HR0.out | (with_reducible refine Kd.C_alloc ?_ _) | (with_reducible refine Kd.C_drewN ?_ _) | (with_reducible refine Kd.C_drew ?_))); (case side2 => exact HC0.out); rintro e w5 ⟨rfl, hb⟩; refine ⟨_, rfl, ?_⟩; replace HB := aM_ (below_step (bB_ HB) hb); (try clear hb); (try clear hb2); (try clear hk); (try clear hi)) | ((with_reducible refine gate_dst (N := 3) rfl ?_); refine boxE_ (N := 3) #[.int .i64 0, .string (⟨#[]⟩ : ByteArray)] 45 ?_; intro gb104 hg w6 hbox hb; have BK104 := aM_ (hbox); have GW104 := aM_ ((bs_ HB hg)); have GE104 := aM_ ((bs_ HB hg)); replace HB := aM_ (below_step (bB_ HB) hb); clear hb hbox hg; have hcz7_0 := bc_ BK104 0; have hcz7_1 := bc_ BK104 1; have hfz7_0 := blk_frozen BK104.out 0; have hfz7_1 := blk_frozen BK104.out 1) | ((with_reducible refine gate_callee (f := 66) rfl ?_); refine goesM_ (some 14) Tryz.func66 #[.agg #[.int .i64 t101, .string t102]] ?_; (with_reducible refine (impl_tableOf.calls t101 t102 t105 t106 w _ ?side1 A3.out).mono ?_); (case side1 => repeat (first | (with_reducible first | exact HB.out | apply bA_ | apply bN_ | apply bD_ | refine below_set ?_ GE104.out) | exact HB.out)); rintro e w8 ⟨g107, rfl, hi, hb, hb2⟩; refine ⟨_, rfl, ?_⟩; replace HB := aM_ (hb); have HI107 := aM_ (hi); have NB107_104 := aM_ (IsS96.ne_blk hi (blk_below (g := gb104) (o := .cells #[.int .i64 t101, .string t102] 45 (0, 0)) (by (with_reducible repeat (first | refine blk_drewN ?_ _ | refine blk_drew ?_ | refine blk_alloc ?_ _)); refine blk_put (cs := #[.int .i64 t101, .string (⟨#[]⟩ : ByteArray)]) ?_ 1 _ rfl; (with_reducible repeat (first | refine blk_drewN ?_ _ | refine blk_drew ?_ | refine blk_alloc ?_ _)); refine blk_put (cs := #[.int .i64 0, .string (⟨#[]⟩ : ByteArray)]) ?_ 0 _ rfl; (with_reducible repeat (first | refine blk_drewN ?_ _ | refine blk_drew ?_ | refine blk_alloc ?_ _)); exact BK104.out) hb2) (by decide)); have NB104_107 := aM_ (Ne.symm (IsS96.ne_blk hi (blk_below (g := gb104) (o := .cells #[.int .i64 t101, .string t102] 45 (0, 0)) (by (with_reducible repeat (first | refine blk_drewN ?_ _ | refine blk_drew ?_ | refine blk_alloc ?_ _)); refine blk_put (cs := #[.int .i64 t101, .string (⟨#[]⟩ : ByteArray)]) ?_ 1 _ rfl; (with_reducible repeat (first | refine blk_drewN ?_ _ | refine blk_drew ?_ | refine blk_alloc ?_ _)); refine blk_put (cs := #[.int .i64 0, .string (⟨#[]⟩ : ByteArray)]) ?_ 0 _ rfl; (with_reducible repeat (first | refine blk_drewN ?_ _ | refine blk_drew ?_ | refine blk_alloc ?_ _)); exact BK104.out) hb2) (by decide))); replace BK104 := aM_ (blk_below (g := gb104) (o := .cells #[.int .i64 t101, .string t102] 45 (0, 0)) (by (with_reducible repeat (first | refine blk_drewN ?_ _ | refine blk_drew ?_ | refine blk_alloc ?_ _)); refine blk_put (cs := #[.int .i64 t101, .string (⟨#[]⟩ : ByteArray)]) ?_ 1 _ rfl; (with_reducible repeat (first | refine blk_drewN ?_ _ | refine blk_drew ?_ | refine blk_alloc ?_ _)); refine blk_put (cs := #[.int .i64 0, .string (⟨#[]⟩ : ByteArray)]) ?_ 0 _ rfl; (with_reducible repeat (first | refine blk_drewN ?_ _ | refine blk_drew ?_ | refine blk_alloc ?_ _)); exact BK104.out) hb2); (try clear hb); (try clear hb2); (try clear hk); (try clear hi)) | ((with_reducible refine gate_callee (f := 67) rfl ?_); refine goesM_ (some 15) Tryz.func67 #[.pointer (some ⟨g107, 0, none⟩)] ?_; (with_reducible refine (impl_chi_hull.calls k g107 t105 t106 t108 t111 t112 w _ ?side1 ?side2 A4.out).mono ?_); (case side1 => repeat (first | (with_reducible first | exact HI107.out | apply IsS96.alloc | apply IsS96.drewN | apply IsS96.drew | apply IsS96.set_0 | apply IsS96.set_1 | refine IsS96.far ?_ NB107_104.out _) | exact HI107.out)); (case side2 => repeat (first | (with_reducible first | exact HB.out | apply bA_ | apply bN_ | apply bD_ | refine below_set ?_ (IsS96.ge HI107.out) | refine below_set ?_ GE104.out) | exact HB.out)); rintro e w9 ⟨v109, rfl, ho0, hi, hb, hk⟩; refine ⟨_, rfl, ?_⟩; replace BK104 := aM_ (KeepBut.blk hk (g' := gb104) (o := .cells #[.int .i64 t101, .string t102] 45 (0, 0)) (bk_ BK104) NB104_107.out (by simp)); have HO110 := aM_ (Kd.R_lower ho0 (below_size (bI_ HB (IsS96.ge HI107.out)))); replace HB := aM_ (hb); replace HI107 := aM_ (hi); (try clear hb); (try clear hb2); (try clear hk); (try clear hi); (try clear ho0); obtain ⟨Ao10, co10, eo10⟩ := Kd.R_slice HO110.out; subst eo10))
 go_loopg [5, 17] k (fun kq v5 v17 w' => ∃ (x5_1 : List (S34)) (x17_1 : Int), v17 = .int .i64 x17_1 ∧ Aside0 (impl_hullPoints.l0 kq l0 x5_1 t108 (t108.length : Int) x17_1 = some r) ∧ Aside0 (kq ≤ k) ∧ Aside0 (Kd.R k34 34 w' w.heap.size (fun _ => True) v5 x5_1) ∧ Aside0 (Kd.R (Kd.int .i64) 3 w' w.heap.size (fun _ => True) (.slice Ao10 t108.length co10) t108) ∧ Aside0 (w'.heap[gb104]? = some (.cells #[.int .i64 t101, .string t102] 45 (0, 0))) ∧ Aside0 (Below w.heap.size w w'))
 case atStart => exact ⟨(([] : List (S34))), (0), veq_, H', ⟨Nat.le_refl _⟩, ⟨by first | exact Kd.R_nil _ _ _ _ _ | exact Kd.N_nil _ _ _ _ _ | exact Kd.V_nil _ _ _ _ _ | exact Kd.Q_nil _ _ _ _ _ | exact Kd.S_nil _ _ _ _ _⟩, ⟨kr_ HO110⟩, ⟨bk_ BK104⟩, ⟨bI_ HB (IsS96.ge HI107.out)⟩⟩
 case round =>
  clear H'
  try clear hcz7_0
  try clear hcz7_1
  try clear hfz7_0
  try clear hfz7_1
  obtain ⟨x5_1, x17_1, rfl, HA, HK1, HO_5, HO_15, BK104, HB⟩ := hrel
  cases gk with
  | zero => exact absurd HA.out (by simp [impl_hullPoints.l0])
  | succ k1 =>
   have H := HA.out
   clear HA
   simp only [impl_hullPoints.l0] at H
   rcases ifd_ H with ⟨c11b0, H⟩ | ⟨c11b0, H⟩
   ·obtain ⟨c12b0, H⟩ := ifn_ H
    obtain ⟨c13b0, H⟩ := ifn_ H
    obtain ⟨c14b0, H⟩ := ifn_ H
    obtain ⟨c15b0, H⟩ := ifn_ H
    obtain ⟨c16, H⟩ := ifp_ H
    have LMc16 := aM_ c16
    clear c16
    obtain ⟨y115, hy115⟩ : ∃ y_ : List (S34), y_ = (x5_1 ++ [(⟨(rd_T34 l0 (rd t108 x17_1)).f0, (rd_T34 l0 (rd t108 x17_1)).f1⟩ : S34)]) := ⟨_, rfl⟩
    replace H : (impl_hullPoints.l0 k1 l0 y115 t108 (t108.length : Int) (wrap64 (x17_1 + 1))) = some r := by first | (rw [hy115]; with_reducible exact H) | (have H2_ := (Option.bind_some _ _).symm.trans H; rw [hy115]; with_reducible exact H2_) | (have H2_ := (Option.bind_some _ _).symm.trans H; with_reducible exact H2_) | with_reducible exact H | (rw [hy115]; exact H) | exact H
    have Ny115 := aM_ hy115
    clear hy115
    have H' := aM_ H
    clear H
    obtain ⟨p113, q113, ad113, e113, hx113_0⟩ := atW_ (Kd.at_int (Kd.R_reads' HO_15.out).2.2 x17_1)
    cases e113
    have p114 : 0 ≤ ((rd t108 x17_1) : Int) := ode_
    have q114 : (rd t108 x17_1) < (l0.length : Int) := ode_
    obtain ⟨ad114, e114, hx114_0, hx114_1⟩ := at_T34 HR0.out (rd t108 x17_1) p114 q114
    cases e114
    replace hx114_0 := hbc_ HB hx114_0
    replace hx114_1 := hbc_ HB hx114_1
    replace p114 := eq_true p114
    replace q114 := eq_true q114
    go_wp2_with (first | ((with_reducible refine gate_builtin (b := .append) (xs := #[.tmp 21, .tmp 26]) rfl ?_); at_builtin; refine Kd.R_append k34 (w0 := w) w.heap.size rfl (.tmp 21) (.tmp 26) 25 34 (.agg #[(.int .i64 0), (.int .i64 0)]) 16 rfl Tryz.underlying25 info34 rfl (by decide) (by omega) u5 x5_1 (⟨(rd_T34 l0 (rd t108 x17_1)).f0, (rd_T34 l0 (rd t108 x17_1)).f1⟩ : S34) [.int .i64 ((rd_T34 l0 (rd t108 x17_1)).f0), .int .i64 ((rd_T34 l0 (rd t108 x17_1)).f1)] (fun _ => True) (fun _ => False) rfl rfl ?aP (fun _ hk => hk.elim) ?aF ?aO ?aB ?aS ?aL ?_; (case aP => exact k34_mkM _ _ _ (⟨(rd_T34 l0 (rd t108 x17_1)).f0, (rd_T34 l0 (rd t108 x17_1)).f1⟩ : S34)); (case aB => exact (bB_ HB)); (case aF => exact (fun _ _ => trivial)); (case aO => exact (kr_ HO_5)); (case aS => exact (below_size (bB_ HB))); (case aL => have := LMc16.out; omega); intro v116 w17 ho hb hg hat; rw [← Ny115.out] at ho; replace HO_15 := aM_ (Kd.R_over' (kr_ HO_15) (Kd.R_typed (kr_ HO_5)) (by decide) hg); replace BK104 := aM_ (blk_grown (g := gb104) (o := .cells #[.int .i64 t101, .string t102] 45 (0, 0)) (bk_ BK104) hg (Kd.R_ne HO_5.out BK104.out (by decide))); replace HB := aM_ (hb); have HO117 := aM_ (ho); clear HO_5; clear ho hb hg hat))
    go_roundg k1
    case measure => have := HK1.out; omega
    case rel => exact ⟨(y115), (wrap64 (x17_1 + 1)), veq_, H', ⟨by have := HK1.out; omega⟩, ⟨kr_ HO117⟩, ⟨kr_ HO_15⟩, ⟨bk_ BK104⟩, ⟨bB_ HB⟩⟩
   ·obtain rfl := Option.some.inj H
    go_wp2
    go_ret
    exact ⟨_, verr_, kr_ HO_5, bB_ HB⟩
end Go.Proofs.YteaagaekdkolnaaGreatDoor.P

namespace Go.Proofs.YteaagaekdkolnaaGreatDoor.P
open Go.RowKit Go.Proofs.YteaagaekdkolnaaGreatDoorW.PrintWords Go.Proofs.YteaagaekdkolnaaGreatDoorW.PrintLast Go.Proofs.YteaagaekdkolnaaGreatDoorW.PrintMore
attribute [local go_sem] max2_int min2_int max_two min_two max_three min_three max_four min_four   -- for this text's walks alone
set_option linter.unusedVariables false
set_option linter.unusedSimpArgs false
/-! ### impl_HullArea: function 20 -/
def impl_HullArea.l0 : Nat → List (S34) → Int → List (S34) → Int → Int → Option (Int)
 | 0, _, _, _, _, _ => none
 | k + 1, x3, x4, x13, x14, x15 => if x15 < x14 then (if 0 ≤ x15 then (if x15 < (x13.length : Int) then (if (x3.length : Int) = 0 then (none) else (if 0 ≤ (Int.tmod (wrap64 (x15 + 1)) (x3.length : Int)) then (if (Int.tmod (wrap64 (x15 + 1)) (x3.length : Int)) < (x3.length : Int) then (impl_HullArea.l0 k x3 (wrap64 ((wrap64 (x4 + (wrap64 (((rd_T34 x13 x15).f0) * ((rd_T34 x3 (Int.tmod (wrap64 (x15 + 1)) (x3.length : Int))).f1))))) - (wrap64 (((rd_T34 x13 x15).f1) * ((rd_T34 x3 (Int.tmod (wrap64 (x15 + 1)) (x3.length : Int))).f0))))) x13 x14 (wrap64 (x15 + 1))) else (none)) else (none))) else (none)) else (none)) else (some x4)
def impl_HullArea.f (k : Nat) (l0 : List (S34)) : Option (Int) := (impl_ArePoints.f k l0).bind fun t101 => (if t101 = true then ((impl_hullPoints.f k l0).bind fun t102 => (impl_HullArea.l0 k t102 0 t102 (t102.length : Int) 0)) else (some (-1)))
set_option maxHeartbeats 8000000 in
set_option maxRecDepth 100000 in
theorem impl_HullArea.calls (k : Nat) (A0 : Option Addr) (c0 : Nat) (l0 : List (S34)) (r : Int) (w : World) (hr0 : Kd.C k34 w A0 l0.length l0) (hc0 : l0.length ≤ c0) (h : impl_HullArea.f k l0 = some r) :
  Calls Tryz.prog 20 #[.slice A0 l0.length c0] w fun e w' => e = .returned (.int .i64 r) ∧ Below w.heap.size w w' := by
 have hu34 := Tryz.underlying34
 have HR0 := aM_ hr0
 have HC0 := aM_ hc0
 clear hr0 hc0
 have HB := aM_ (Below.refl w.heap.size w)
 have H : ((impl_ArePoints.f k l0).bind fun t101 => (if t101 = true then ((impl_hullPoints.f k l0).bind fun t102 => (impl_HullArea.l0 k t102 0 t102 (t102.length : Int) 0)) else (some (-1)))) = some r := h
 clear h
 replace H := oB_ H
 obtain ⟨t101, A20, H⟩ := H
 have A2 := aM_ A20
 clear A20
 by_cases c3 : t101 = true
 ·subst c3
  rw [if_pos rfl] at H
  replace H := oB_ H
  obtain ⟨t102, A40, H⟩ := H
  have A4 := aM_ A40
  clear A40
  have H' := aM_ H
  clear H
  go_enter Tryz.func20, Tryz.ntmps20
  go_wp2_with (first | ((with_reducible refine gate_callee (f := 17) rfl ?_); refine goesM_ (some 9) Tryz.func17 #[.slice A0 l0.length c0] ?_; (with_reducible refine (impl_ArePoints.calls k _ _ l0 true _ ?side1 ?side2 A2.out).mono ?_); (case side1 => repeat (first | exact HR0.out | (with_reducible refine Kd.C_alloc ?_ _) | (with_reducible refine Kd.C_drewN ?_ _) | (with_reducible refine Kd.C_drew ?_))); (case side2 => exact HC0.out); rintro e w5 ⟨rfl, hb⟩; refine ⟨_, rfl, ?_⟩; replace HB := aM_ (below_step (bB_ HB) hb); (try clear hb); (try clear hk)) | ((with_reducible refine gate_callee (f := 42) rfl ?_); refine goesM_ (some 12) Tryz.func42 #[.slice A0 l0.length c0] ?_; (with_reducible refine (impl_hullPoints.calls k _ _ l0 t102 _ ?side1 ?side2 A4.out).mono ?_); (case side1 => repeat (first | exact (Kd.C_below HR0.out HB.out) | (with_reducible refine Kd.C_alloc ?_ _) | (with_reducible refine Kd.C_drewN ?_ _) | (with_reducible refine Kd.C_drew ?_))); (case side2 => exact HC0.out); rintro e w6 ⟨v103, rfl, ho0, hb⟩; refine ⟨_, rfl, ?_⟩; have HO104 := aM_ (Kd.R_lower ho0 (below_size (bB_ HB))); replace HB := aM_ (below_step (bB_ HB) hb); (try clear hb); (try clear hk); (try clear ho0); obtain ⟨Ao7, co7, eo7⟩ := Kd.R_slice HO104.out; subst eo7))
  go_loopg [4, 15] k (fun kq v4 v15 w' => ∃ (x4_1 : Int) (x15_1 : Int), v4 = .int .i64 x4_1 ∧ v15 = .int .i64 x15_1 ∧ Aside0 (impl_HullArea.l0 kq t102 x4_1 t102 (t102.length : Int) x15_1 = some r) ∧ Aside0 (kq ≤ k) ∧ Aside0 (Kd.R k34 34 w' w.heap.size (fun _ => True) (.slice Ao7 t102.length co7) t102) ∧ Aside0 (Kd.R k34 34 w' w.heap.size (fun _ => True) (.slice Ao7 t102.length co7) t102) ∧ Aside0 (Below w.heap.size w w'))
  case atStart => exact ⟨(0), (0), veq_, veq_, H', ⟨Nat.le_refl _⟩, ⟨kr_ HO104⟩, ⟨kr_ HO104⟩, ⟨bB_ HB⟩⟩
  case round =>
   clear H'
   try clear c3
   obtain ⟨x4_1, x15_1, rfl, rfl, HA, HK1, HO_3, HO_13, HB⟩ := hrel
   cases gk with
   | zero => exact absurd HA.out (by simp [impl_HullArea.l0])
   | succ k1 =>
    have H := HA.out
    clear HA
    simp only [impl_HullArea.l0] at H
    rcases ifd_ H with ⟨c8b0, H⟩ | ⟨c8b0, H⟩
    ·obtain ⟨c9b0, H⟩ := ifn_ H
     obtain ⟨c10b0, H⟩ := ifn_ H
     obtain ⟨c11, H⟩ := ifm_ H
     have c11b0 : ((t102.length : Int) == 0) = false := beq_eq_false_iff_ne.mpr c11
     have c11b1 : ((t102.length : Int) != 0) = true := bne_iff_ne.mpr c11
     have c11b2 : ¬ (t102 = []) := fun h_ => c11 (by rw [h_]; rfl)
     obtain ⟨ji12, hji12⟩ : ∃ j_ : Int, (Int.tmod (wrap64 (x15_1 + 1)) (t102.length : Int)) = j_ := ⟨_, rfl⟩
     replace H : (if 0 ≤ (ji12) then (if (ji12) < (t102.length : Int) then (impl_HullArea.l0 k1 t102 (wrap64 ((wrap64 (x4_1 + (wrap64 (((rd_T34 t102 x15_1).f0) * ((rd_T34 t102 (ji12)).f1))))) - (wrap64 (((rd_T34 t102 x15_1).f1) * ((rd_T34 t102 (ji12)).f0))))) t102 (t102.length : Int) (wrap64 (x15_1 + 1))) else (none)) else (none)) = some r := by first | (rw [hji12] at H; exact H) | (simp only [hji12] at H ⊢; exact H)
     obtain ⟨c13b0, H⟩ := ifn_ H
     obtain ⟨c14b0, H⟩ := ifn_ H
     have H' := aM_ H
     clear H
     obtain ⟨p105, q105, ad105, e105, hx105_0, hx105_1⟩ := atW_ (at_T34 (Kd.R_reads' HO_13.out).2.2 x15_1)
     cases e105
     go_wp2_with (first | ((with_reducible refine gate_dst (N := 6) rfl ?_); refine boxE_ (N := 6) #[.int .i64 0, .int .i64 0] 34 ?_; intro gb106 hg w15 hbox hb; replace HO_3 := aM_ (Kd.R_below (Kd.R_elderB (kr_ HO_3) gb106 (Nat.le_of_eq hg.symm)) hb); replace HO_13 := aM_ (Kd.R_below (Kd.R_elderB (kr_ HO_13) gb106 (Nat.le_of_eq hg.symm)) hb); have BK106 := aM_ (hbox); have GW106 := aM_ ((bs_ HB hg)); have GE106 := aM_ ((bs_ HB hg)); replace HB := aM_ (below_step (bB_ HB) hb); clear hb hbox hg; have hcz16_0 := bc_ BK106 0; have hcz16_1 := bc_ BK106 1; have hfz16_0 := blk_frozen BK106.out 0; have hfz16_1 := blk_frozen BK106.out 1; have p107 : 0 ≤ ((ji12) : Int) := ode_; have q107 : (ji12) < (t102.length : Int) := ode_; obtain ⟨ad107, e107, hx107_0, hx107_1⟩ := at_T34 (Kd.R_reads' HO_3.out).2.2 (ji12) p107 q107; obtain rfl : ad105 = ad107 := (by injection e107); have hn107_0 : ad105.block ≠ gb106 := (by first | exact Kd.own_blk (Kd.R_ne HO_3.out BK106.out (by decide)) | exact (HO_3.out.1 _ rfl).2 | exact (HO_3.out.1 _ rfl).1.2); have hn107_1 : ad105.block ≠ gb106 := (by first | exact Kd.own_blk (Kd.R_ne HO_3.out BK106.out (by decide)) | exact (HO_3.out.1 _ rfl).2 | exact (HO_3.out.1 _ rfl).1.2); replace hx107_0 := (cell_far (p := ⟨gb106, 0, none⟩) (by first | (rw [add_block]; exact hn107_0) | (show (Addr.add _ _).block ≠ _; rw [add_block]; exact hn107_0) | exact hn107_0) (.int .i64 ((rd_T34 t102 x15_1).f0))).trans hx107_0; replace hx107_1 := (cell_far (p := ⟨gb106, 0, none⟩) (by first | (rw [add_block]; exact hn107_0) | (show (Addr.add _ _).block ≠ _; rw [add_block]; exact hn107_0) | exact hn107_0) (.int .i64 ((rd_T34 t102 x15_1).f0))).trans hx107_1; replace hx107_0 := (cell_far (p := ⟨gb106, 1, none⟩) (by first | (rw [add_block]; exact hn107_1) | (show (Addr.add _ _).block ≠ _; rw [add_block]; exact hn107_1) | exact hn107_1) (.int .i64 ((rd_T34 t102 x15_1).f1))).trans hx107_0; replace hx107_1 := (cell_far (p := ⟨gb106, 1, none⟩) (by first | (rw [add_block]; exact hn107_1) | (show (Addr.add _ _).block ≠ _; rw [add_block]; exact hn107_1) | exact hn107_1) (.int .i64 ((rd_T34 t102 x15_1).f1))).trans hx107_1; clear hn107_0; clear hn107_1; replace p107 := eq_true p107; replace q107 := eq_true q107) | ((with_reducible refine gate_dst (N := 7) rfl ?_); refine boxE_ (N := 7) #[.int .i64 0, .int .i64 0] 34 ?_; intro gb108 hg w17 hbox hb; replace HO_3 := aM_ (Kd.R_below (Kd.R_elderB (by (with_reducible repeat (first | apply kA_ | apply kN_ | apply kD_)); exact (Kd.R_mono (Kd.R_far (p := ⟨gb106, 1, none⟩) (Kd.R_far (p := ⟨gb106, 0, none⟩) (Kd.R_mono HO_3.out (fun k_ hk => (⟨hk, hk.2⟩ : _ ∧ k_ ≠ gb106))) (fun _ hk => hk.2) (.int .i64 ((rd_T34 t102 x15_1).f0))) (fun _ hk => hk.2) (.int .i64 ((rd_T34 t102 x15_1).f1))) (fun _ h_ => h_.1))) gb108 (Nat.le_of_eq hg.symm)) hb); replace HO_13 := aM_ (Kd.R_below (Kd.R_elderB (by (with_reducible repeat (first | apply kA_ | apply kN_ | apply kD_)); exact (Kd.R_mono (Kd.R_far (p := ⟨gb106, 1, none⟩) (Kd.R_far (p := ⟨gb106, 0, none⟩) (Kd.R_mono HO_13.out (fun k_ hk => (⟨hk, hk.2⟩ : _ ∧ k_ ≠ gb106))) (fun _ hk => hk.2) (.int .i64 ((rd_T34 t102 x15_1).f0))) (fun _ hk => hk.2) (.int .i64 ((rd_T34 t102 x15_1).f1))) (fun _ h_ => h_.1))) gb108 (Nat.le_of_eq hg.symm)) hb); have BK108 := aM_ (hbox); have GW108 := aM_ ((bs_ HB hg)); have GE108 := aM_ ((bs_ HB hg)); replace HB := aM_ (below_step (bB_ HB) hb); have NB106_108 := aM_ ((by rw [hg]; exact Nat.ne_of_lt (blk_lt (g := gb106) (o := .cells #[.int .i64 ((rd_T34 t102 x15_1).f0), .int .i64 ((rd_T34 t102 x15_1).f1)] 34 (0, 0)) (by (with_reducible repeat (first | refine blk_drewN ?_ _ | refine blk_drew ?_ | refine blk_alloc ?_ _)); refine blk_put (cs := #[.int .i64 ((rd_T34 t102 x15_1).f0), .int .i64 0]) ?_ 1 _ rfl; (with_reducible repeat (first | refine blk_drewN ?_ _ | refine blk_drew ?_ | refine blk_alloc ?_ _)); refine blk_put (cs := #[.int .i64 0, .int .i64 0]) ?_ 0 _ rfl; (with_reducible repeat (first | refine blk_drewN ?_ _ | refine blk_drew ?_ | refine blk_alloc ?_ _)); exact BK106.out)) : gb106 ≠ gb108)); have NB108_106 := aM_ ((by rw [hg]; exact Nat.ne_of_gt (blk_lt (g := gb106) (o := .cells #[.int .i64 ((rd_T34 t102 x15_1).f0), .int .i64 ((rd_T34 t102 x15_1).f1)] 34 (0, 0)) (by (with_reducible repeat (first | refine blk_drewN ?_ _ | refine blk_drew ?_ | refine blk_alloc ?_ _)); refine blk_put (cs := #[.int .i64 ((rd_T34 t102 x15_1).f0), .int .i64 0]) ?_ 1 _ rfl; (with_reducible repeat (first | refine blk_drewN ?_ _ | refine blk_drew ?_ | refine blk_alloc ?_ _)); refine blk_put (cs := #[.int .i64 0, .int .i64 0]) ?_ 0 _ rfl; (with_reducible repeat (first | refine blk_drewN ?_ _ | refine blk_drew ?_ | refine blk_alloc ?_ _)); exact BK106.out)) : gb108 ≠ gb106)); replace BK106 := aM_ (blk_below (g := gb106) (o := .cells #[.int .i64 ((rd_T34 t102 x15_1).f0), .int .i64 ((rd_T34 t102 x15_1).f1)] 34 (0, 0)) (by (with_reducible repeat (first | refine blk_drewN ?_ _ | refine blk_drew ?_ | refine blk_alloc ?_ _)); refine blk_put (cs := #[.int .i64 ((rd_T34 t102 x15_1).f0), .int .i64 0]) ?_ 1 _ rfl; (with_reducible repeat (first | refine blk_drewN ?_ _ | refine blk_drew ?_ | refine blk_alloc ?_ _)); refine blk_put (cs := #[.int .i64 0, .int .i64 0]) ?_ 0 _ rfl; (with_reducible repeat (first | refine blk_drewN ?_ _ | refine blk_drew ?_ | refine blk_alloc ?_ _)); exact BK106.out) hb); clear hb hbox hg; have hnb18 := NB108_106.out; have hnc18 := NB106_108.out; have hcz19_0 := bc_ BK108 0; have hcz19_1 := bc_ BK108 1; have hfz19_0 := blk_frozen BK108.out 0; have hfz19_1 := blk_frozen BK108.out 1; have hcz20_0 := bc_ BK106 0; have hcz20_1 := bc_ BK106 1; have hfz20_0 := blk_frozen BK106.out 0; have hfz20_1 := blk_frozen BK106.out 1))
     go_roundg k1
     case measure => have := HK1.out; omega
     case rel => exact ⟨(wrap64 ((wrap64 (x4_1 + (wrap64 (((rd_T34 t102 x15_1).f0) * ((rd_T34 t102 (ji12)).f1))))) - (wrap64 (((rd_T34 t102 x15_1).f1) * ((rd_T34 t102 (ji12)).f0))))), (wrap64 (x15_1 + 1)), (by first | rfl | (simp; done) | (simp only [← hji12] <;> (first | rfl | simp)) | (simp [*]; done)), veq_, H', ⟨by have := HK1.out; omega⟩, ⟨by (with_reducible repeat (first | apply kA_ | apply kN_ | apply kD_)); exact Kd.R_mono (Kd.R_far (p := ⟨gb108, 1, none⟩) (Kd.R_far (p := ⟨gb108, 0, none⟩) (Kd.R_mono HO_3.out (fun k_ hk => (⟨hk, hk.2⟩ : _ ∧ k_ ≠ gb108))) (fun _ hk => hk.2) (.int .i64 ((rd_T34 t102 (ji12)).f0))) (fun _ hk => hk.2) (.int .i64 ((rd_T34 t102 (ji12)).f1))) (fun _ hk => trivial)⟩, ⟨by (with_reducible repeat (first | apply kA_ | apply kN_ | apply kD_)); exact Kd.R_mono (Kd.R_far (p := ⟨gb108, 1, none⟩) (Kd.R_far (p := ⟨gb108, 0, none⟩) (Kd.R_mono HO_13.out (fun k_ hk => (⟨hk, hk.2⟩ : _ ∧ k_ ≠ gb108))) (fun _ hk => hk.2) (.int .i64 ((rd_T34 t102 (ji12)).f0))) (fun _ hk => hk.2) (.int .i64 ((rd_T34 t102 (ji12)).f1))) (fun _ hk => trivial)⟩, ⟨bB_ HB⟩⟩
    ·obtain rfl := Option.some.inj H
     go_wp2
     go_ret
     exact ⟨verr_, bB_ HB⟩
 ·replace c3 := Bool.eq_false_iff.mpr c3
  subst c3
  rw [if_neg (show ¬ (false = true) by decide)] at H
  obtain rfl := Option.some.inj H
  go_enter Tryz.func20, Tryz.ntmps20
  go_wp2_with (first | ((with_reducible refine gate_callee (f := 17) rfl ?_); refine goesM_ (some 9) Tryz.func17 #[.slice A0 l0.length c0] ?_; (with_reducible refine (impl_ArePoints.calls k _ _ l0 false _ ?side1 ?side2 A2.out).mono ?_); (case side1 => repeat (first | exact HR0.out | (with_reducible refine Kd.C_alloc ?_ _) | (with_reducible refine Kd.C_drewN ?_ _) | (with_reducible refine Kd.C_drew ?_))); (case side2 => exact HC0.out); rintro e w21 ⟨rfl, hb⟩; refine ⟨_, rfl, ?_⟩; replace HB := aM_ (below_step (bB_ HB) hb); (try clear hb); (try clear hk)))
  go_ret
  exact ⟨verr_, bB_ HB⟩
end Go.Proofs.YteaagaekdkolnaaGreatDoor.P

namespace Go.Proofs.YteaagaekdkolnaaGreatDoor.P
open Go.RowKit Go.Proofs.YteaagaekdkolnaaGreatDoorW.PrintWords Go.Proofs.YteaagaekdkolnaaGreatDoorW.PrintLast Go.Proofs.YteaagaekdkolnaaGreatDoorW.PrintMore
attribute [local go_sem] max2_int min2_int max_two min_two max_three min_three max_four min_four   -- for this text's walks alone
set_option linter.unusedVariables false
set_option linter.unusedSimpArgs false
/-! ### impl_divisor: function 68 -/
mutual
def impl_divisor.l0 : Nat → Int → List Int → Int → Int → Option (Int)
 | 0, _, _, _, _ => none
 | k + 1, x3, x6, x7, x8 => if x8 < x7 then (if 0 ≤ x8 then (if x8 < (x6.length : Int) then (impl_divisor.l1 k x3 (rd x6 x8) x6 x7 x8) else (none)) else (none)) else (some (mx x3 (wrap64 (-x3))))
def impl_divisor.l1 : Nat → Int → Int → List Int → Int → Int → Option (Int)
 | 0, _, _, _, _, _ => none
 | k + 1, x3, x5, x6, x7, x8 => if x5 = 0 then (impl_divisor.l0 k x3 x6 x7 (wrap64 (x8 + 1))) else (impl_divisor.l1 k x5 (Int.tmod x3 x5) x6 x7 x8)
end
def impl_divisor.f (k : Nat) (l0 : List Int) : Option (Int) := impl_divisor.l0 k 0 l0 (l0.length : Int) 0
set_option maxHeartbeats 8000000 in
set_option maxRecDepth 100000 in
theorem impl_divisor.calls (k : Nat) (A0 : Option Addr) (c0 : Nat) (l0 : List Int) (r : Int) (w : World) (hr0 : Kd.C (Kd.int .i64) w A0 l0.length l0) (hc0 : l0.length ≤ c0) (h : impl_divisor.f k l0 = some r) :
  Calls Tryz.prog 68 #[.slice A0 l0.length c0] w fun e w' => e = .returned (.int .i64 r) ∧ Below w.heap.size w w' := by
 have HR0 := aM_ hr0
 have HC0 := aM_ hc0
 clear hr0 hc0
 have HB := aM_ (Below.refl w.heap.size w)
 have H : (impl_divisor.l0 k 0 l0 (l0.length : Int) 0) = some r := h
 clear h
 have H' := aM_ H
 clear H
 go_enter Tryz.func68, Tryz.ntmps68
 go_wp2
 repeat (go_quiet (fail); try go_wp2)
 go_loopg [3, 8] k (fun kq v3 v8 w' => ∃ (x3_1 : Int) (x8_1 : Int), v3 = .int .i64 x3_1 ∧ v8 = .int .i64 x8_1 ∧ Aside0 (impl_divisor.l0 kq x3_1 l0 (l0.length : Int) x8_1 = some r) ∧ Aside0 (kq ≤ k) ∧ Aside0 (Below w.heap.size w w'))
 case atStart => exact ⟨(0), (0), veq_, veq_, H', ⟨Nat.le_refl _⟩, ⟨bB_ HB⟩⟩
 case round =>
  clear H'
  obtain ⟨x3_1, x8_1, rfl, rfl, HA, HK1, HB⟩ := hrel
  cases gk with
  | zero => exact absurd HA.out (by simp [impl_divisor.l0])
  | succ k1 =>
   have H := HA.out
   clear HA
   simp only [impl_divisor.l0] at H
   rcases ifd_ H with ⟨c2b0, H⟩ | ⟨c2b0, H⟩
   ·obtain ⟨c3b0, H⟩ := ifn_ H
    obtain ⟨c4b0, H⟩ := ifn_ H
    have H' := aM_ H
    clear H
    have p101 : 0 ≤ (x8_1 : Int) := ode_
    have q101 : x8_1 < (l0.length : Int) := ode_
    obtain ⟨ad101, e101, hx101_0⟩ := Kd.at_int HR0.out x8_1 p101 q101
    cases e101
    replace hx101_0 := hbc_ HB hx101_0
    replace p101 := eq_true p101
    replace q101 := eq_true q101
    go_wp2
    repeat (go_quiet (fail); try go_wp2)
    go_loopg [3, 5] k1 (fun kq v3 v5 w' => ∃ (x3_2 : Int) (x5_2 : Int), v3 = .int .i64 x3_2 ∧ v5 = .int .i64 x5_2 ∧ Aside0 (impl_divisor.l1 kq x3_2 x5_2 l0 (l0.length : Int) x8_1 = some r) ∧ Aside0 (kq ≤ k1) ∧ Aside0 (Below w.heap.size w w'))
    case atStart => exact ⟨(x3_1), (rd l0 x8_1), veq_, veq_, H', ⟨Nat.le_refl _⟩, ⟨bB_ HB⟩⟩
    case round =>
     clear H'
     try clear c2b0
     try clear c3b0
     try clear c4b0
     try clear hx101_0
     try clear p101
     try clear q101
     obtain ⟨x3_2, x5_2, rfl, rfl, HA, HK2, HB⟩ := hrel
     cases gk with
     | zero => exact absurd HA.out (by simp [impl_divisor.l1])
     | succ k2 =>
      have H := HA.out
      clear HA
      simp only [impl_divisor.l1] at H
      rcases ifc_ H with ⟨c5, H⟩ | ⟨c5, H⟩
      ·have c5b0 : (x5_2 == 0) = true := beq_iff_eq.mpr c5
       have c5b1 : (x5_2 != 0) = false := bne_eq_false_iff_eq.mpr c5
       clear c5
       have H' := aM_ H
       clear H
       go_wp2
       repeat (go_quiet (fail); try go_wp2)
       go_roundg k2
       case measure => have := HK1.out; have := HK2.out; omega
       case rel => exact ⟨(x3_2), (wrap64 (x8_1 + 1)), veq_, veq_, H', ⟨by have := HK1.out; have := HK2.out; omega⟩, ⟨bB_ HB⟩⟩
      ·have c5b0 : (x5_2 == 0) = false := beq_eq_false_iff_ne.mpr c5
       have c5b1 : (x5_2 != 0) = true := bne_iff_ne.mpr c5
       have H' := aM_ H
       clear H
       go_wp2
       repeat (go_quiet (fail); try go_wp2)
       go_roundg k2
       case measure => have := HK1.out; have := HK2.out; omega
       case rel => exact ⟨(x5_2), (Int.tmod x3_2 x5_2), veq_, veq_, H', ⟨by have := HK1.out; have := HK2.out; omega⟩, ⟨bB_ HB⟩⟩
   ·obtain ⟨ji6, hji6⟩ : ∃ j_ : Int, (mx x3_1 (wrap64 (-x3_1))) = j_ := ⟨_, rfl⟩
    replace H : (some ji6) = some r := by first | (rw [hji6] at H; exact H) | (simp only [hji6] at H ⊢; exact H)
    have hji6_ : (if x3_1 < (wrap64 (-x3_1)) then (wrap64 (-x3_1)) else x3_1) = ji6 := hji6
    obtain rfl := Option.some.inj H
    go_wp2
    repeat (go_quiet (fail); try go_wp2)
    go_ret
    exact ⟨by first | rfl | (simp [errW_none, errW_some] <;> rfl) | (simp only [← hji6]; first | rfl | (simp [errW_none, errW_some] <;> rfl)) | (simp [*, errW_none, errW_some] <;> rfl), bB_ HB⟩
end Go.Proofs.YteaagaekdkolnaaGreatDoor.P

namespace Go.Proofs.YteaagaekdkolnaaGreatDoor.P
open Go.RowKit Go.Proofs.YteaagaekdkolnaaGreatDoorW.PrintWords Go.Proofs.YteaagaekdkolnaaGreatDoorW.PrintLast Go.Proofs.YteaagaekdkolnaaGreatDoorW.PrintMore
attribute [local go_sem] max2_int min2_int max_two min_two max_three min_three max_four min_four   -- for this text's walks alone
set_option linter.unusedVariables false
set_option linter.unusedSimpArgs false
/-! ### impl_OnEdge: function 43 -/
def impl_OnEdge.f (k : Nat) (a0_0 : Int) (a0_1 : Int) (a1_0 : Int) (a1_1 : Int) : Option (Int) := (impl_areNear.f 1000 (([(⟨a0_0, a0_1⟩ : S34), (⟨a1_0, a1_1⟩ : S34)] : List (S34)))).bind fun t106 => (if t106 = true then ((impl_divisor.f k (([wrap64 (a1_0 - a0_0), wrap64 (a1_1 - a0_1)] : List Int))).bind fun t110 => (some t110)) else (some (-1)))
set_option maxHeartbeats 8000000 in
set_option maxRecDepth 100000 in
theorem impl_OnEdge.calls (k : Nat) (a0_0 : Int) (a0_1 : Int) (a1_0 : Int) (a1_1 : Int) (r : Int) (w : World) (h : impl_OnEdge.f k a0_0 a0_1 a1_0 a1_1 = some r) :
  Calls Tryz.prog 43 #[.agg #[.int .i64 a0_0, .int .i64 a0_1], .agg #[.int .i64 a1_0, .int .i64 a1_1]] w fun e w' => e = .returned (.int .i64 r) ∧ Below w.heap.size w w' := by
 have hu34 := Tryz.underlying34
 have HB := aM_ (Below.refl w.heap.size w)
 have H : ((impl_areNear.f 1000 (([(⟨a0_0, a0_1⟩ : S34), (⟨a1_0, a1_1⟩ : S34)] : List (S34)))).bind fun t106 => (if t106 = true then ((impl_divisor.f k (([wrap64 (a1_0 - a0_0), wrap64 (a1_1 - a0_1)] : List Int))).bind fun t110 => (some t110)) else (some (-1)))) = some r := h
 clear h
 obtain ⟨y103, hy103⟩ : ∃ y_ : List (S34), y_ = (([(⟨a0_0, a0_1⟩ : S34), (⟨a1_0, a1_1⟩ : S34)] : List (S34))) := ⟨_, rfl⟩
 replace H : ((impl_areNear.f 1000 y103).bind fun t106 => (if t106 = true then ((impl_divisor.f k (([wrap64 (a1_0 - a0_0), wrap64 (a1_1 - a0_1)] : List Int))).bind fun t110 => (some t110)) else (some (-1)))) = some r := by first | (rw [hy103]; with_reducible exact H) | (have H2_ := (Option.bind_some _ _).symm.trans H; rw [hy103]; with_reducible exact H2_) | (have H2_ := (Option.bind_some _ _).symm.trans H; with_reducible exact H2_) | with_reducible exact H | (rw [hy103]; exact H) | exact H
 have Ny103 := aM_ hy103
 clear hy103
 replace H := oB_ H
 obtain ⟨t106, A30, H⟩ := H
 have A3 := aM_ A30
 clear A30
 by_cases c4 : t106 = true
 ·subst c4
  rw [if_pos rfl] at H
  obtain ⟨y107, hy107⟩ : ∃ y_ : List Int, y_ = (([wrap64 (a1_0 - a0_0), wrap64 (a1_1 - a0_1)] : List Int)) := ⟨_, rfl⟩
  replace H : ((impl_divisor.f k y107).bind fun t110 => (some t110)) = some r := by first | (rw [hy107]; with_reducible exact H) | (have H2_ := (Option.bind_some _ _).symm.trans H; rw [hy107]; with_reducible exact H2_) | (have H2_ := (Option.bind_some _ _).symm.trans H; with_reducible exact H2_) | with_reducible exact H | (rw [hy107]; exact H) | exact H
  have Ny107 := aM_ hy107
  clear hy107
  replace H := oB_ H
  obtain ⟨t110, A50, H⟩ := H
  have A5 := aM_ A50
  clear A50
  obtain rfl := Option.some.inj H
  go_enter Tryz.func43, Tryz.ntmps43
  go_wp2_with (first | ((with_reducible refine gate_dst (N := 2) rfl ?_); refine boxE_ (N := 2) #[.int .i64 a0_0, .int .i64 a0_1] 34 ?_; intro gb101 hg w6 hbox hb; have BK101 := aM_ (hbox); have GW101 := aM_ ((bs_ HB hg)); have GE101 := aM_ ((bs_ HB hg)); replace HB := aM_ (below_step (bB_ HB) hb); clear hb hbox hg) | ((with_reducible refine gate_dst (N := 3) rfl ?_); refine boxE_ (N := 3) #[.int .i64 a1_0, .int .i64 a1_1] 34 ?_; intro gb102 hg w7 hbox hb; have BK102 := aM_ (hbox); have GW102 := aM_ ((bs_ HB hg)); have GE102 := aM_ ((bs_ HB hg)); replace HB := aM_ (below_step (bB_ HB) hb); have NB101_102 := aM_ ((bnl_ BK101 hg)); have NB102_101 := aM_ ((bng_ BK101 hg)); replace BK101 := aM_ (bkb_ BK101 hb); clear hb hbox hg; have hnb8 := NB101_102.out; have hnc8 := NB102_101.out; have hcz9_0 := bc_ BK101 0; have hcz9_1 := bc_ BK101 1; have hfz9_0 := blk_frozen BK101.out 0; have hfz9_1 := blk_frozen BK101.out 1; have hcz10_0 := bc_ BK102 0; have hcz10_1 := bc_ BK102 1; have hfz10_0 := blk_frozen BK102.out 0; have hfz10_1 := blk_frozen BK102.out 1) | ((with_reducible refine gate_dst (N := 7) rfl ?_); refine Kd.R_lit k34 _ 34 ?hg (N := 7) ?hd (xs := ([(⟨a0_0, a0_1⟩ : S34), (⟨a1_0, a1_1⟩ : S34)] : List (S34))) (inner := [.int .i64 a0_0, .int .i64 a0_1, .int .i64 a1_0, .int .i64 a1_1]) (ok := fun _ => True) (okp := fun _ => True) ?hr ?hp (fun _ hk => hk) trivial (Below.refl _ _) (Nat.le_refl _) (by simp) ?_; (case hd => rfl); (case hg => rfl); (case hr => first | (go_simp; done) | (go_simp; rfl)); (case hp => exact (Reps.c2 (show Kd.M k34 _ _ _ (⟨a0_0, a0_1⟩ : S34) [.int .i64 a0_0, .int .i64 a0_1] from (k34_mkM _ _ _ (⟨a0_0, a0_1⟩ : S34) )) (Reps.c2 (show Kd.M k34 _ _ _ (⟨a1_0, a1_1⟩ : S34) [.int .i64 a1_0, .int .i64 a1_1] from (k34_mkM _ _ _ (⟨a1_0, a1_1⟩ : S34) )) (Reps.none _ _)))); intro v104 w11 ho12 hb hg_ hnew_; clear hg_ hnew_; (first | rw [← Ny103.out] at ho12 | (simp only [Int.reduceToNat] at ho12; rw [← Ny103.out] at ho12)); have HO105 := aM_ (Kd.R_lower (Kd.R_newB (Kd.R_newB ho12 (g := gb101) (o := .cells #[.int .i64 a0_0, .int .i64 a0_1] 34 (0, 0)) (bk_ BK101)) (g := gb102) (o := .cells #[.int .i64 a1_0, .int .i64 a1_1] 34 (0, 0)) (bk_ BK102)) (below_size (bB_ HB))); replace BK101 := aM_ (bkb_ BK101 hb); replace BK102 := aM_ (bkb_ BK102 hb); replace HB := aM_ (below_step (bB_ HB) hb); clear hb ho12; obtain ⟨Ao13, co13, eo13⟩ := Kd.R_slice HO105.out; subst eo13) | ((with_reducible refine gate_callee (f := 37) rfl ?_); refine goesM_ (some 8) Tryz.func37 #[.int .i64 1000, .slice Ao13 y103.length co13] ?_; (with_reducible refine (impl_areNear.calls 1000 _ _ y103 true _ ?side1 ?side2 A3.out).mono ?_); (case side1 => repeat (first | exact (Kd.R_reads' HO105.out).2.2 | (with_reducible refine Kd.C_alloc ?_ _) | (with_reducible refine Kd.C_drewN ?_ _) | (with_reducible refine Kd.C_drew ?_))); (case side2 => exact (Kd.R_reads' HO105.out).2.1); rintro e w14 ⟨rfl, hb⟩; refine ⟨_, rfl, ?_⟩; replace HO105 := aM_ (Kd.R_below (kr_ HO105) hb); replace BK101 := aM_ (bkb_ BK101 hb); replace BK102 := aM_ (bkb_ BK102 hb); replace HB := aM_ (below_step (bB_ HB) hb); (try clear hb); (try clear hk); have hcz15_0 := bc_ BK102 0; have hcz15_1 := bc_ BK102 1; have hfz15_0 := blk_frozen BK102.out 0; have hfz15_1 := blk_frozen BK102.out 1; have hcz16_0 := bc_ BK101 0; have hcz16_1 := bc_ BK101 1; have hfz16_0 := blk_frozen BK101.out 0; have hfz16_1 := blk_frozen BK101.out 1) | ((with_reducible refine gate_dst (N := 20) rfl ?_); refine Kd.R_lit (Kd.int .i64) _ 3 ?hg (N := 20) ?hd (xs := ([wrap64 (a1_0 - a0_0), wrap64 (a1_1 - a0_1)] : List Int)) (inner := [.int .i64 (wrap64 (a1_0 - a0_0)), .int .i64 (wrap64 (a1_1 - a0_1))]) (ok := fun _ => True) (okp := fun _ => True) ?hr ?hp (fun _ hk => hk) trivial (Below.refl _ _) (Nat.le_refl _) (by simp) ?_; (case hd => rfl); (case hg => rfl); (case hr => first | (go_simp; done) | (go_simp; rfl)); (case hp => exact (Reps.one (show Kd.M (Kd.int .i64) _ _ _ (wrap64 (a1_0 - a0_0)) [.int .i64 (wrap64 (a1_0 - a0_0))] from rfl) (Reps.one (show Kd.M (Kd.int .i64) _ _ _ (wrap64 (a1_1 - a0_1)) [.int .i64 (wrap64 (a1_1 - a0_1))] from rfl) (Reps.none _ _)))); intro v108 w17 ho18 hb hg_ hnew_; clear hg_ hnew_; (first | rw [← Ny107.out] at ho18 | (simp only [Int.reduceToNat] at ho18; rw [← Ny107.out] at ho18)); replace HO105 := aM_ (Kd.R_below (kr_ HO105) hb); have HO109 := aM_ (Kd.R_lower ho18 (below_size (bB_ HB))); replace BK101 := aM_ (bkb_ BK101 hb); replace BK102 := aM_ (bkb_ BK102 hb); replace HB := aM_ (below_step (bB_ HB) hb); clear hb ho18; obtain ⟨Ao19, co19, eo19⟩ := Kd.R_slice HO109.out; subst eo19) | ((with_reducible refine gate_callee (f := 68) rfl ?_); refine goesM_ (some 21) Tryz.func68 #[.slice Ao19 y107.length co19] ?_; (with_reducible refine (impl_divisor.calls k _ _ y107 t110 _ ?side1 ?side2 A5.out).mono ?_); (case side1 => repeat (first | exact (Kd.R_reads' HO109.out).2.2 | (with_reducible refine Kd.C_alloc ?_ _) | (with_reducible refine Kd.C_drewN ?_ _) | (with_reducible refine Kd.C_drew ?_))); (case side2 => exact (Kd.R_reads' HO109.out).2.1); rintro e w20 ⟨rfl, hb⟩; refine ⟨_, rfl, ?_⟩; replace HO105 := aM_ (Kd.R_below (kr_ HO105) hb); replace HO109 := aM_ (Kd.R_below (kr_ HO109) hb); replace BK101 := aM_ (bkb_ BK101 hb); replace BK102 := aM_ (bkb_ BK102 hb); replace HB := aM_ (below_step (bB_ HB) hb); (try clear hb); (try clear hk)))
  go_ret
  exact ⟨verr_, bB_ HB⟩
 ·replace c4 := Bool.eq_false_iff.mpr c4
  subst c4
  rw [if_neg (show ¬ (false = true) by decide)] at H
  obtain rfl := Option.some.inj H
  go_enter Tryz.func43, Tryz.ntmps43
  go_wp2_with (first | ((with_reducible refine gate_dst (N := 2) rfl ?_); refine boxE_ (N := 2) #[.int .i64 a0_0, .int .i64 a0_1] 34 ?_; intro gb101 hg w21 hbox hb; have BK101 := aM_ (hbox); have GW101 := aM_ ((bs_ HB hg)); have GE101 := aM_ ((bs_ HB hg)); replace HB := aM_ (below_step (bB_ HB) hb); clear hb hbox hg) | ((with_reducible refine gate_dst (N := 3) rfl ?_); refine boxE_ (N := 3) #[.int .i64 a1_0, .int .i64 a1_1] 34 ?_; intro gb102 hg w22 hbox hb; have BK102 := aM_ (hbox); have GW102 := aM_ ((bs_ HB hg)); have GE102 := aM_ ((bs_ HB hg)); replace HB := aM_ (below_step (bB_ HB) hb); have NB101_102 := aM_ ((bnl_ BK101 hg)); have NB102_101 := aM_ ((bng_ BK101 hg)); replace BK101 := aM_ (bkb_ BK101 hb); clear hb hbox hg; have hnb23 := NB101_102.out; have hnc23 := NB102_101.out; have hcz24_0 := bc_ BK101 0; have hcz24_1 := bc_ BK101 1; have hfz24_0 := blk_frozen BK101.out 0; have hfz24_1 := blk_frozen BK101.out 1; have hcz25_0 := bc_ BK102 0; have hcz25_1 := bc_ BK102 1; have hfz25_0 := blk_frozen BK102.out 0; have hfz25_1 := blk_frozen BK102.out 1) | ((with_reducible refine gate_dst (N := 7) rfl ?_); refine Kd.R_lit k34 _ 34 ?hg (N := 7) ?hd (xs := ([(⟨a0_0, a0_1⟩ : S34), (⟨a1_0, a1_1⟩ : S34)] : List (S34))) (inner := [.int .i64 a0_0, .int .i64 a0_1, .int .i64 a1_0, .int .i64 a1_1]) (ok := fun _ => True) (okp := fun _ => True) ?hr ?hp (fun _ hk => hk) trivial (Below.refl _ _) (Nat.le_refl _) (by simp) ?_; (case hd => rfl); (case hg => rfl); (case hr => first | (go_simp; done) | (go_simp; rfl)); (case hp => exact (Reps.c2 (show Kd.M k34 _ _ _ (⟨a0_0, a0_1⟩ : S34) [.int .i64 a0_0, .int .i64 a0_1] from (k34_mkM _ _ _ (⟨a0_0, a0_1⟩ : S34) )) (Reps.c2 (show Kd.M k34 _ _ _ (⟨a1_0, a1_1⟩ : S34) [.int .i64 a1_0, .int .i64 a1_1] from (k34_mkM _ _ _ (⟨a1_0, a1_1⟩ : S34) )) (Reps.none _ _)))); intro v104 w26 ho27 hb hg_ hnew_; clear hg_ hnew_; (first | rw [← Ny103.out] at ho27 | (simp only [Int.reduceToNat] at ho27; rw [← Ny103.out] at ho27)); have HO105 := aM_ (Kd.R_lower (Kd.R_newB (Kd.R_newB ho27 (g := gb101) (o := .cells #[.int .i64 a0_0, .int .i64 a0_1] 34 (0, 0)) (bk_ BK101)) (g := gb102) (o := .cells #[.int .i64 a1_0, .int .i64 a1_1] 34 (0, 0)) (bk_ BK102)) (below_size (bB_ HB))); replace BK101 := aM_ (bkb_ BK101 hb); replace BK102 := aM_ (bkb_ BK102 hb); replace HB := aM_ (below_step (bB_ HB) hb); clear hb ho27; obtain ⟨Ao28, co28, eo28⟩ := Kd.R_slice HO105.out; subst eo28) | ((with_reducible refine gate_callee (f := 37) rfl ?_); refine goesM_ (some 8) Tryz.func37 #[.int .i64 1000, .slice Ao28 y103.length co28] ?_; (with_reducible refine (impl_areNear.calls 1000 _ _ y103 false _ ?side1 ?side2 A3.out).mono ?_); (case side1 => repeat (first | exact (Kd.R_reads' HO105.out).2.2 | (with_reducible refine Kd.C_alloc ?_ _) | (with_reducible refine Kd.C_drewN ?_ _) | (with_reducible refine Kd.C_drew ?_))); (case side2 => exact (Kd.R_reads' HO105.out).2.1); rintro e w29 ⟨rfl, hb⟩; refine ⟨_, rfl, ?_⟩; replace HO105 := aM_ (Kd.R_below (kr_ HO105) hb); replace BK101 := aM_ (bkb_ BK101 hb); replace BK102 := aM_ (bkb_ BK102 hb); replace HB := aM_ (below_step (bB_ HB) hb); (try clear hb); (try clear hk)))
  go_ret
  exact ⟨verr_, bB_ HB⟩
end Go.Proofs.YteaagaekdkolnaaGreatDoor.P

namespace Go.Proofs.YteaagaekdkolnaaGreatDoor.P
open Go.RowKit Go.Proofs.YteaagaekdkolnaaGreatDoorW.PrintWords Go.Proofs.YteaagaekdkolnaaGreatDoorW.PrintLast Go.Proofs.YteaagaekdkolnaaGreatDoorW.PrintMore
attribute [local go_sem] max2_int min2_int max_two min_two max_three min_three max_four min_four   -- for this text's walks alone
set_option linter.unusedVariables false
set_option linter.unusedSimpArgs false
/-! ### impl_EdgePoints: function 21 -/
def impl_EdgePoints.l0 : Nat → List (S34) → Int → List (S34) → Int → Int → Option (Int)
 | 0, _, _, _, _, _ => none
 | k + 1, x3, x4, x12, x13, x14 => if x14 < x13 then (if 0 ≤ x14 then (if x14 < (x12.length : Int) then (if (x3.length : Int) = 0 then (none) else (if 0 ≤ (Int.tmod (wrap64 (x14 + 1)) (x3.length : Int)) then (if (Int.tmod (wrap64 (x14 + 1)) (x3.length : Int)) < (x3.length : Int) then ((impl_OnEdge.f k ((rd_T34 x12 x14).f0) ((rd_T34 x12 x14).f1) ((rd_T34 x3 (Int.tmod (wrap64 (x14 + 1)) (x3.length : Int))).f0) ((rd_T34 x3 (Int.tmod (wrap64 (x14 + 1)) (x3.length : Int))).f1)).bind fun t108 => (impl_EdgePoints.l0 k x3 (wrap64 (x4 + t108)) x12 x13 (wrap64 (x14 + 1)))) else (none)) else (none))) else (none)) else (none)) else (some x4)
def impl_EdgePoints.f (k : Nat) (l0 : List (S34)) : Option (Int) := (impl_ArePoints.f k l0).bind fun t101 => (if t101 = true then ((impl_hullPoints.f k l0).bind fun t102 => (impl_EdgePoints.l0 k t102 0 t102 (t102.length : Int) 0)) else (some (-1)))
def impl_EdgePoints.T8 : Bool × List (List Nat × List Nat) := (true, [([], []), ([], []), ([], []), ([], []), ([3], [3]), ([], []), ([5], [5]), ([4, 6], [4, 6]), ([2, 7], [2, 7]), ([8], [8]), ([1, 9], [1, 9]), ([0, 10], [0, 10]), ([11, 10, 0, 1, 2, 3, 4, 5, 6, 7, 8, 9, 10, 11], [0, 11])])
def impl_EdgePoints.B8 : List Nat := [0, 0, 0, 0, 8, 0, 32, 120, 252, 508, 1022, 2047, 4095]
theorem impl_EdgePoints.tab8 : rtab .any (opsOf Tryz.f21 8) = impl_EdgePoints.T8 := by kernel_rfl
theorem impl_EdgePoints.bits8 : waitsOk impl_EdgePoints.T8.2 impl_EdgePoints.B8 = true := by kernel_rfl
set_option maxHeartbeats 8000000 in
set_option maxRecDepth 100000 in
theorem impl_EdgePoints.calls (k : Nat) (A0 : Option Addr) (c0 : Nat) (l0 : List (S34)) (r : Int) (w : World) (hr0 : Kd.C k34 w A0 l0.length l0) (hc0 : l0.length ≤ c0) (h : impl_EdgePoints.f k l0 = some r) :
  Calls Tryz.prog 21 #[.slice A0 l0.length c0] w fun e w' => e = .returned (.int .i64 r) ∧ Below w.heap.size w w' := by
 have hu34 := Tryz.underlying34
 have HR0 := aM_ hr0
 have HC0 := aM_ hc0
 clear hr0 hc0
 have HB := aM_ (Below.refl w.heap.size w)
 have H : ((impl_ArePoints.f k l0).bind fun t101 => (if t101 = true then ((impl_hullPoints.f k l0).bind fun t102 => (impl_EdgePoints.l0 k t102 0 t102 (t102.length : Int) 0)) else (some (-1)))) = some r := h
 clear h
 replace H := oB_ H
 obtain ⟨t101, A20, H⟩ := H
 have A2 := aM_ A20
 clear A20
 by_cases c3 : t101 = true
 ·subst c3
  rw [if_pos rfl] at H
  replace H := oB_ H
  obtain ⟨t102, A40, H⟩ := H
  have A4 := aM_ A40
  clear A40
  have H' := aM_ H
  clear H
  go_enter Tryz.func21, Tryz.ntmps21
  go_wp2_with (first | ((with_reducible refine gate_callee (f := 17) rfl ?_); refine goesM_ (some 8) Tryz.func17 #[.slice A0 l0.length c0] ?_; (with_reducible refine (impl_ArePoints.calls k _ _ l0 true _ ?side1 ?side2 A2.out).mono ?_); (case side1 => repeat (first | exact HR0.out | (with_reducible refine Kd.C_alloc ?_ _) | (with_reducible refine Kd.C_drewN ?_ _) | (with_reducible refine Kd.C_drew ?_))); (case side2 => exact HC0.out); rintro e w5 ⟨rfl, hb⟩; refine ⟨_, rfl, ?_⟩; replace HB := aM_ (below_step (bB_ HB) hb); (try clear hb); (try clear hk)) | ((with_reducible refine gate_callee (f := 42) rfl ?_); refine goesM_ (some 11) Tryz.func42 #[.slice A0 l0.length c0] ?_; (with_reducible refine (impl_hullPoints.calls k _ _ l0 t102 _ ?side1 ?side2 A4.out).mono ?_); (case side1 => repeat (first | exact (Kd.C_below HR0.out HB.out) | (with_reducible refine Kd.C_alloc ?_ _) | (with_reducible refine Kd.C_drewN ?_ _) | (with_reducible refine Kd.C_drew ?_))); (case side2 => exact HC0.out); rintro e w6 ⟨v103, rfl, ho0, hb⟩; refine ⟨_, rfl, ?_⟩; have HO104 := aM_ (Kd.R_lower ho0 (below_size (bB_ HB))); replace HB := aM_ (below_step (bB_ HB) hb); (try clear hb); (try clear hk); (try clear ho0); obtain ⟨Ao7, co7, eo7⟩ := Kd.R_slice HO104.out; subst eo7))
  go_loopg [4, 14] k (fun kq v4 v14 w' => ∃ (x4_1 : Int) (x14_1 : Int), v4 = .int .i64 x4_1 ∧ v14 = .int .i64 x14_1 ∧ Aside0 (impl_EdgePoints.l0 kq t102 x4_1 t102 (t102.length : Int) x14_1 = some r) ∧ Aside0 (kq ≤ k) ∧ Aside0 (Kd.R k34 34 w' w.heap.size (fun _ => True) (.slice Ao7 t102.length co7) t102) ∧ Aside0 (Kd.R k34 34 w' w.heap.size (fun _ => True) (.slice Ao7 t102.length co7) t102) ∧ Aside0 (Below w.heap.size w w'))
  case atStart => exact ⟨(0), (0), veq_, veq_, H', ⟨Nat.le_refl _⟩, ⟨kr_ HO104⟩, ⟨kr_ HO104⟩, ⟨bB_ HB⟩⟩
  case round =>
   clear H'
   try clear c3
   obtain ⟨x4_1, x14_1, rfl, rfl, HA, HK1, HO_3, HO_12, HB⟩ := hrel
   cases gk with
   | zero => exact absurd HA.out (by simp [impl_EdgePoints.l0])
   | succ k1 =>
    have H := HA.out
    clear HA
    simp only [impl_EdgePoints.l0] at H
    rcases ifd_ H with ⟨c8b0, H⟩ | ⟨c8b0, H⟩
    ·obtain ⟨c9b0, H⟩ := ifn_ H
     obtain ⟨c10b0, H⟩ := ifn_ H
     obtain ⟨c11, H⟩ := ifm_ H
     have c11b0 : ((t102.length : Int) == 0) = false := beq_eq_false_iff_ne.mpr c11
     have c11b1 : ((t102.length : Int) != 0) = true := bne_iff_ne.mpr c11
     have c11b2 : ¬ (t102 = []) := fun h_ => c11 (by rw [h_]; rfl)
     obtain ⟨ji12, hji12⟩ : ∃ j_ : Int, (Int.tmod (wrap64 (x14_1 + 1)) (t102.length : Int)) = j_ := ⟨_, rfl⟩
     replace H : (if 0 ≤ (ji12) then (if (ji12) < (t102.length : Int) then ((impl_OnEdge.f k1 ((rd_T34 t102 x14_1).f0) ((rd_T34 t102 x14_1).f1) ((rd_T34 t102 (ji12)).f0) ((rd_T34 t102 (ji12)).f1)).bind fun t108 => (impl_EdgePoints.l0 k1 t102 (wrap64 (x4_1 + t108)) t102 (t102.length : Int) (wrap64 (x14_1 + 1)))) else (none)) else (none)) = some r := by first | (rw [hji12] at H; exact H) | (simp only [hji12] at H ⊢; exact H)
     obtain ⟨c13b0, H⟩ := ifn_ H
     obtain ⟨c14b0, H⟩ := ifn_ H
     replace H := oB_ H
     obtain ⟨t108, A150, H⟩ := H
     have A15 := aM_ A150
     clear A150
     have H' := aM_ H
     clear H
     obtain ⟨p105, q105, ad105, e105, hx105_0, hx105_1⟩ := atW_ (at_T34 (Kd.R_reads' HO_12.out).2.2 x14_1)
     cases e105
     try go_wp2_with (first | ((with_reducible refine gate_dst (N := 6) rfl ?_); refine boxE_ (N := 6) #[.int .i64 0, .int .i64 0] 34 ?_; intro gb106 hg w16 hbox hb; replace HO_3 := aM_ (Kd.R_below (Kd.R_elderB (kr_ HO_3) gb106 (Nat.le_of_eq hg.symm)) hb); replace HO_12 := aM_ (Kd.R_below (Kd.R_elderB (kr_ HO_12) gb106 (Nat.le_of_eq hg.symm)) hb); have BK106 := aM_ (hbox); have GW106 := aM_ ((bs_ HB hg)); have GE106 := aM_ ((bs_ HB hg)); replace HB := aM_ (below_step (bB_ HB) hb); clear hb hbox hg; have hcz17_0 := bc_ BK106 0; have hcz17_1 := bc_ BK106 1; have hfz17_0 := blk_frozen BK106.out 0; have hfz17_1 := blk_frozen BK106.out 1))
     replace HO_3 : Aside0 (Kd.R k34 34 ((w16.setCell ⟨gb106, 0, none⟩ (.int .i64 ((rd_T34 t102 x14_1).f0))).setCell ⟨gb106, 1, none⟩ (.int .i64 ((rd_T34 t102 x14_1).f1))) w.heap.size (fun k_ => k_ ≠ gb106) (.slice (some ad105) t102.length co7) t102) := ⟨by (with_reducible repeat (first | apply kA_ | apply kN_ | apply kD_)); exact Kd.R_mono (Kd.R_far (p := ⟨gb106, 1, none⟩) (Kd.R_far (p := ⟨gb106, 0, none⟩) (Kd.R_mono HO_3.out (fun k_ hk => (⟨hk, hk.2⟩ : _ ∧ k_ ≠ gb106))) (fun _ hk => hk.2) (.int .i64 ((rd_T34 t102 x14_1).f0))) (fun _ hk => hk.2) (.int .i64 ((rd_T34 t102 x14_1).f1))) (fun _ hk => hk.1.2)⟩
     replace HO_12 : Aside0 (Kd.R k34 34 ((w16.setCell ⟨gb106, 0, none⟩ (.int .i64 ((rd_T34 t102 x14_1).f0))).setCell ⟨gb106, 1, none⟩ (.int .i64 ((rd_T34 t102 x14_1).f1))) w.heap.size (fun k_ => k_ ≠ gb106) (.slice (some ad105) t102.length co7) t102) := ⟨by (with_reducible repeat (first | apply kA_ | apply kN_ | apply kD_)); exact Kd.R_mono (Kd.R_far (p := ⟨gb106, 1, none⟩) (Kd.R_far (p := ⟨gb106, 0, none⟩) (Kd.R_mono HO_12.out (fun k_ hk => (⟨hk, hk.2⟩ : _ ∧ k_ ≠ gb106))) (fun _ hk => hk.2) (.int .i64 ((rd_T34 t102 x14_1).f0))) (fun _ hk => hk.2) (.int .i64 ((rd_T34 t102 x14_1).f1))) (fun _ hk => hk.1.2)⟩
     replace BK106 : Aside0 (((w16.setCell ⟨gb106, 0, none⟩ (.int .i64 ((rd_T34 t102 x14_1).f0))).setCell ⟨gb106, 1, none⟩ (.int .i64 ((rd_T34 t102 x14_1).f1))).heap[gb106]? = some (.cells #[.int .i64 ((rd_T34 t102 x14_1).f0), .int .i64 ((rd_T34 t102 x14_1).f1)] 34 (0, 0))) := ⟨by (with_reducible repeat (first | refine blk_drewN ?_ _ | refine blk_drew ?_ | refine blk_alloc ?_ _)); refine blk_put (cs := #[.int .i64 ((rd_T34 t102 x14_1).f0), .int .i64 0]) ?_ 1 _ rfl; (with_reducible repeat (first | refine blk_drewN ?_ _ | refine blk_drew ?_ | refine blk_alloc ?_ _)); refine blk_put (cs := #[.int .i64 0, .int .i64 0]) ?_ 0 _ rfl; (with_reducible repeat (first | refine blk_drewN ?_ _ | refine blk_drew ?_ | refine blk_alloc ?_ _)); exact BK106.out⟩
     replace HB : Aside0 (Below w.heap.size w ((w16.setCell ⟨gb106, 0, none⟩ (.int .i64 ((rd_T34 t102 x14_1).f0))).setCell ⟨gb106, 1, none⟩ (.int .i64 ((rd_T34 t102 x14_1).f1)))) := ⟨bB_ HB⟩
     generalize ((w16.setCell ⟨gb106, 0, none⟩ (.int .i64 ((rd_T34 t102 x14_1).f0))).setCell ⟨gb106, 1, none⟩ (.int .i64 ((rd_T34 t102 x14_1).f1))) = w18 at HO_3 HO_12 BK106 HB ⊢
     replace HO_3 := aM_ (kD_ HO_3.out)
     replace HO_12 := aM_ (kD_ HO_12.out)
     replace BK106 := aM_ (blk_drew BK106.out)
     replace HB := aM_ (bD_ HB.out)
     obtain ⟨p107, q107, ad107, e107, hx107_0, hx107_1⟩ := atW_ (at_T34 (Kd.R_reads' HO_3.out).2.2 (ji12))
     obtain rfl : ad105 = ad107 := (by injection e107)
     refine start_ (n := 13) (S := fun w' => w'.cell? ⟨gb106, 0, none⟩ = some (.int .i64 ((rd_T34 t102 x14_1).f0)) ∧ w'.cell? ⟨gb106, 1, none⟩ = some (.int .i64 ((rd_T34 t102 x14_1).f1)) ∧ w'.cell? (ad105.add (((ji12)).toNat * 2)) = some (.int .i64 ((rd_T34 t102 (ji12)).f0)) ∧ w'.cell? ⟨(ad105.add (((ji12)).toNat * 2)).block, (ad105.add (((ji12)).toNat * 2)).off + 1, none⟩ = some (.int .i64 ((rd_T34 t102 (ji12)).f1))) (ds := []) (bm 13 0) (by kernel_rfl) rfl rfl ⟨bc_ BK106 0, bc_ BK106 1, hx107_0, hx107_1⟩ (fun hHeld => ?_); refine with_tabW impl_EdgePoints.tab8 impl_EdgePoints.bits8 (fun HT_ HW_ => ?_)
     generalize w18.drew = w19 at HO_3 HO_12 BK106 HB hx107_0 hx107_1 hHeld ⊢
     refine plan_ ((0, 0, 19, 1) :: (0, 2, 21, 5) :: (0, 3, 22, 13) :: (0, 4, 23, 29) :: (0, 5, 24, 61) :: (0, 6, 25, 125) :: (0, 7, 26, 253) :: (0, 8, 27, 509) :: (2, 1, 20, 511) :: (2, 9, 28, 1023) :: []) ?_
     iterate 10 (first | refine pV_ HT_ ?_ | refine pT_ HT_ HW_ hHeld ?_)
     refine planEnd_ ?_
     refine one_ (i := 10) (N := some 29) (bm 13 2047) rfl rfl (one_of HT_.out (by kernel_rfl)) (by decide) (fun K hK => ?_)
     refine goes_ Tryz.func43 (by kernel_rfl) rfl #[.agg #[.int .i64 ((rd_T34 t102 x14_1).f0), .int .i64 ((rd_T34 t102 x14_1).f1)], .agg #[.int .i64 ((rd_T34 t102 (ji12)).f0), .int .i64 ((rd_T34 t102 (ji12)).f1)]] (by rfl) rfl rfl (by (try simp only [List.map_toArray, List.map_cons, List.map_nil]); first | done | (simp only [hji12]; rfl) | rfl | (simp only [List.length_drop, List.length_take]; rfl)) ?_
     with_reducible refine (impl_OnEdge.calls k1 ((rd_T34 t102 x14_1).f0) ((rd_T34 t102 x14_1).f1) ((rd_T34 t102 (ji12)).f0) ((rd_T34 t102 (ji12)).f1) t108 _ A15.out).mono ?_
     rintro e w20 ⟨rfl, hb⟩
     have HS2_ := hc_ hb hHeld.2.2.1
     have HS3_ := hc_ hb hHeld.2.2.2
     refine ⟨_, rfl, ?_⟩
     replace HO_3 := aM_ (Kd.R_below (kr_ HO_3) hb)
     replace HO_12 := aM_ (Kd.R_below (kr_ HO_12) hb)
     replace BK106 := aM_ (bkb_ BK106 hb)
     replace HB := aM_ (below_step (bB_ HB) hb)
     (try clear hb)
     (try clear hk)
     refine hK.out _ _ ⟨bc_ BK106 0, bc_ BK106 1, HS2_, HS3_⟩ (fun hHeld => ?_)
     clear hK K
     refine nrm_ ?_
     refine plan_ ((0, 11, 30, 4095) :: (0, 12, 4, 8191) :: []) ?_
     iterate 2 (first | refine pV_ HT_ ?_)
     refine planEnd_ ?_
     refine done_ (done_of HT_.out (by kernel_rfl)) ?_
     try go_wp2
     go_roundg k1
     case measure => have := HK1.out; omega
     case rel => exact ⟨(wrap64 (x4_1 + t108)), (wrap64 (x14_1 + 1)), veq_, veq_, H', ⟨by have := HK1.out; omega⟩, ⟨by (with_reducible repeat (first | apply kA_ | apply kN_ | apply kD_)); exact Kd.R_mono HO_3.out (fun _ hk => trivial)⟩, ⟨by (with_reducible repeat (first | apply kA_ | apply kN_ | apply kD_)); exact Kd.R_mono HO_12.out (fun _ hk => trivial)⟩, ⟨bB_ HB⟩⟩
    ·obtain rfl := Option.some.inj H
     go_wp2
     go_ret
     exact ⟨verr_, bB_ HB⟩
 ·replace c3 := Bool.eq_false_iff.mpr c3
  subst c3
  rw [if_neg (show ¬ (false = true) by decide)] at H
  obtain rfl := Option.some.inj H
  go_enter Tryz.func21, Tryz.ntmps21
  go_wp2_with (first | ((with_reducible refine gate_callee (f := 17) rfl ?_); refine goesM_ (some 8) Tryz.func17 #[.slice A0 l0.length c0] ?_; (with_reducible refine (impl_ArePoints.calls k _ _ l0 false _ ?side1 ?side2 A2.out).mono ?_); (case side1 => repeat (first | exact HR0.out | (with_reducible refine Kd.C_alloc ?_ _) | (with_reducible refine Kd.C_drewN ?_ _) | (with_reducible refine Kd.C_drew ?_))); (case side2 => exact HC0.out); rintro e w21 ⟨rfl, hb⟩; refine ⟨_, rfl, ?_⟩; replace HB := aM_ (below_step (bB_ HB) hb); (try clear hb); (try clear hk)))
  go_ret
  exact ⟨verr_, bB_ HB⟩
end Go.Proofs.YteaagaekdkolnaaGreatDoor.P

namespace Go.Proofs.YteaagaekdkolnaaGreatDoor.P
open Go.RowKit Go.Proofs.YteaagaekdkolnaaGreatDoorW.PrintWords Go.Proofs.YteaagaekdkolnaaGreatDoorW.PrintLast Go.Proofs.YteaagaekdkolnaaGreatDoorW.PrintMore
attribute [local go_sem] max2_int min2_int max_two min_two max_three min_three max_four min_four   -- for this text's walks alone
set_option linter.unusedVariables false
set_option linter.unusedSimpArgs false
/-! ### impl_InnerPoints: function 22 -/
def impl_InnerPoints.f (k : Nat) (l0 : List (S34)) : Option (Int) := (impl_ArePoints.f k l0).bind fun t101 => (if t101 = true then ((impl_HullArea.f k l0).bind fun t102 => ((impl_EdgePoints.f k l0).bind fun t103 => (some (wrap64 (Int.tdiv (wrap64 ((wrap64 (t102 - t103)) + 2)) 2))))) else (some (-1)))
set_option maxHeartbeats 8000000 in
set_option maxRecDepth 100000 in
theorem impl_InnerPoints.calls (k : Nat) (A0 : Option Addr) (c0 : Nat) (l0 : List (S34)) (r : Int) (w : World) (hr0 : Kd.C k34 w A0 l0.length l0) (hc0 : l0.length ≤ c0) (h : impl_InnerPoints.f k l0 = some r) :
  Calls Tryz.prog 22 #[.slice A0 l0.length c0] w fun e w' => e = .returned (.int .i64 r) ∧ Below w.heap.size w w' := by
 have HR0 := aM_ hr0
 have HC0 := aM_ hc0
 clear hr0 hc0
 have HB := aM_ (Below.refl w.heap.size w)
 have H : ((impl_ArePoints.f k l0).bind fun t101 => (if t101 = true then ((impl_HullArea.f k l0).bind fun t102 => ((impl_EdgePoints.f k l0).bind fun t103 => (some (wrap64 (Int.tdiv (wrap64 ((wrap64 (t102 - t103)) + 2)) 2))))) else (some (-1)))) = some r := h
 clear h
 replace H := oB_ H
 obtain ⟨t101, A20, H⟩ := H
 have A2 := aM_ A20
 clear A20
 by_cases c3 : t101 = true
 ·subst c3
  rw [if_pos rfl] at H
  replace H := oB_ H
  obtain ⟨t102, A40, H⟩ := H
  have A4 := aM_ A40
  clear A40
  replace H := oB_ H
  obtain ⟨t103, A50, H⟩ := H
  have A5 := aM_ A50
  clear A50
  obtain rfl := Option.some.inj H
  go_enter Tryz.func22, Tryz.ntmps22
  go_wp2_with (first | ((with_reducible refine gate_callee (f := 17) rfl ?_); refine goesM_ (some 4) Tryz.func17 #[.slice A0 l0.length c0] ?_; (with_reducible refine (impl_ArePoints.calls k _ _ l0 true _ ?side1 ?side2 A2.out).mono ?_); (case side1 => repeat (first | exact HR0.out | (with_reducible refine Kd.C_alloc ?_ _) | (with_reducible refine Kd.C_drewN ?_ _) | (with_reducible refine Kd.C_drew ?_))); (case side2 => exact HC0.out); rintro e w6 ⟨rfl, hb⟩; refine ⟨_, rfl, ?_⟩; replace HB := aM_ (below_step (bB_ HB) hb); (try clear hb)) | ((with_reducible refine gate_callee (f := 20) rfl ?_); refine goesM_ (some 7) Tryz.func20 #[.slice A0 l0.length c0] ?_; (with_reducible refine (impl_HullArea.calls k _ _ l0 t102 _ ?side1 ?side2 A4.out).mono ?_); (case side1 => repeat (first | exact (Kd.C_below HR0.out HB.out) | (with_reducible refine Kd.C_alloc ?_ _) | (with_reducible refine Kd.C_drewN ?_ _) | (with_reducible refine Kd.C_drew ?_))); (case side2 => exact HC0.out); rintro e w7 ⟨rfl, hb⟩; refine ⟨_, rfl, ?_⟩; replace HB := aM_ (below_step (bB_ HB) hb); (try clear hb)) | ((with_reducible refine gate_callee (f := 21) rfl ?_); refine goesM_ (some 9) Tryz.func21 #[.slice A0 l0.length c0] ?_; (with_reducible refine (impl_EdgePoints.calls k _ _ l0 t103 _ ?side1 ?side2 A5.out).mono ?_); (case side1 => repeat (first | exact (Kd.C_below HR0.out HB.out) | (with_reducible refine Kd.C_alloc ?_ _) | (with_reducible refine Kd.C_drewN ?_ _) | (with_reducible refine Kd.C_drew ?_))); (case side2 => exact HC0.out); rintro e w8 ⟨rfl, hb⟩; refine ⟨_, rfl, ?_⟩; replace HB := aM_ (below_step (bB_ HB) hb); (try clear hb)))
  go_ret
  exact ⟨verr_, bB_ HB⟩
 ·replace c3 := Bool.eq_false_iff.mpr c3
  subst c3
  rw [if_neg (show ¬ (false = true) by decide)] at H
  obtain rfl := Option.some.inj H
  go_enter Tryz.func22, Tryz.ntmps22
  go_wp2_with (first | ((with_reducible refine gate_callee (f := 17) rfl ?_); refine goesM_ (some 4) Tryz.func17 #[.slice A0 l0.length c0] ?_; (with_reducible refine (impl_ArePoints.calls k _ _ l0 false _ ?side1 ?side2 A2.out).mono ?_); (case side1 => repeat (first | exact HR0.out | (with_reducible refine Kd.C_alloc ?_ _) | (with_reducible refine Kd.C_drewN ?_ _) | (with_reducible refine Kd.C_drew ?_))); (case side2 => exact HC0.out); rintro e w9 ⟨rfl, hb⟩; refine ⟨_, rfl, ?_⟩; replace HB := aM_ (below_step (bB_ HB) hb); (try clear hb)))
  go_ret
  exact ⟨verr_, bB_ HB⟩
end Go.Proofs.YteaagaekdkolnaaGreatDoor.P

namespace Go.Proofs.YteaagaekdkolnaaGreatDoor.P
open Go.RowKit Go.Proofs.YteaagaekdkolnaaGreatDoorW.PrintWords Go.Proofs.YteaagaekdkolnaaGreatDoorW.PrintLast Go.Proofs.YteaagaekdkolnaaGreatDoorW.PrintMore
attribute [local go_sem] max2_int min2_int max_two min_two max_three min_three max_four min_four   -- for this text's walks alone
set_option linter.unusedVariables false
set_option linter.unusedSimpArgs false
/-! ### impl_yesNo: function 23 -/
def impl_yesNo.f (a0 : Bool) : Option (ByteArray) := if a0 = true then (some (⟨#[121, 101, 115]⟩ : ByteArray)) else (some (⟨#[110, 111]⟩ : ByteArray))
set_option maxHeartbeats 8000000 in
set_option maxRecDepth 100000 in
theorem impl_yesNo.calls (a0 : Bool) (r : ByteArray) (w : World) (h : impl_yesNo.f a0 = some r) :
  Calls Tryz.prog 23 #[.bool a0] w fun e w' => e = .returned (.string r) ∧ Drawn0 w w' := by
 have H : (if a0 = true then (some (⟨#[121, 101, 115]⟩ : ByteArray)) else (some (⟨#[110, 111]⟩ : ByteArray))) = some r := h
 clear h
 by_cases c2 : a0 = true
 ·subst c2
  rw [if_pos rfl] at H
  obtain rfl := Option.some.inj H
  go_enter Tryz.func23, Tryz.ntmps23
  go_wp2
  go_ret
  exact ⟨veq_, by repeat (first | exact Drawn0.refl _ | apply Drawn0.step)⟩
 ·replace c2 := Bool.eq_false_iff.mpr c2
  subst c2
  rw [if_neg (show ¬ (false = true) by decide)] at H
  obtain rfl := Option.some.inj H
  go_enter Tryz.func23, Tryz.ntmps23
  go_wp2
  go_ret
  exact ⟨veq_, by repeat (first | exact Drawn0.refl _ | apply Drawn0.step)⟩
end Go.Proofs.YteaagaekdkolnaaGreatDoor.P

namespace Go.Proofs.YteaagaekdkolnaaGreatDoor.P
open Go.RowKit Go.Proofs.YteaagaekdkolnaaGreatDoorW.PrintWords Go.Proofs.YteaagaekdkolnaaGreatDoorW.PrintLast Go.Proofs.YteaagaekdkolnaaGreatDoorW.PrintMore
attribute [local go_sem] max2_int min2_int max_two min_two max_three min_three max_four min_four   -- for this text's walks alone
set_option linter.unusedVariables false
set_option linter.unusedSimpArgs false
/-! ### impl_quadsOf: function 44 -/
mutual
def impl_quadsOf.l0 : Nat → Int → List (S62) → List (S59) → Int → Int → Option ((List (S62)))
 | 0, _, _, _, _, _ => none
 | k + 1, x0, x3, x8, x9, x10 => if x10 < x9 then (if 0 ≤ x10 then (if x10 < (x8.length : Int) then (impl_quadsOf.l1 k x0 x3 (wrap64 (((rd_T59 x8 x10).f2) + 1)) x8 x9 x10 ((rd_T59 x8 x10).f0) ((rd_T59 x8 x10).f1) ((rd_T59 x8 x10).f2)) else (none)) else (none)) else (some x3)
def impl_quadsOf.l1 : Nat → Int → List (S62) → Int → List (S59) → Int → Int → Int → Int → Int → Option ((List (S62)))
 | 0, _, _, _, _, _, _, _, _, _ => none
 | k + 1, x0, x3, x6, x8, x9, x10, x106000, x106001, x106002 => if x6 < x0 then (if x3.length < 4398046511104 then (impl_quadsOf.l1 k x0 (x3 ++ [(⟨x106000, x106001, x106002, x6⟩ : S62)]) (wrap64 (x6 + 1)) x8 x9 x10 x106000 x106001 x106002) else (none)) else (impl_quadsOf.l0 k x0 x3 x8 x9 (wrap64 (x10 + 1)))
end
def impl_quadsOf.f (k : Nat) (a0 : Int) : Option ((List (S62))) := (impl_triplesOf.f k a0).bind fun t101 => (impl_quadsOf.l0 k a0 ([] : List (S62)) t101 (t101.length : Int) 0)
theorem impl_quadsOf.mono_l : ∀ k, (∀ y0 y1 y2 y3 y4, LeO (impl_quadsOf.l0 k y0 y1 y2 y3 y4) (impl_quadsOf.l0 (k + 1) y0 y1 y2 y3 y4)) ∧ (∀ y0 y1 y2 y3 y4 y5 y6 y7 y8, LeO (impl_quadsOf.l1 k y0 y1 y2 y3 y4 y5 y6 y7 y8) (impl_quadsOf.l1 (k + 1) y0 y1 y2 y3 y4 y5 y6 y7 y8))
 | 0 => ⟨fun _ _ _ _ _ r h => by simp [impl_quadsOf.l0] at h, fun _ _ _ _ _ _ _ _ _ r h => by simp [impl_quadsOf.l1] at h⟩
 | k + 1 => by
  obtain ⟨ih0, ih1⟩ := impl_quadsOf.mono_l k
  refine ⟨?_, ?_⟩ <;> (intros; (first | unfold impl_quadsOf.l0 | unfold impl_quadsOf.l1); repeat' (with_reducible first | exact ih0 _ _ _ _ _ | exact ih1 _ _ _ _ _ _ _ _ _ | exact impl_triplesOf.mono _ _ | exact LeO.refl _ | exact LeO.none _ | refine LeO.ite ?_ ?_ | refine LeO.bind ?_ (fun _ => ?_)))
theorem impl_quadsOf.mono : ∀ a0 k, LeO (impl_quadsOf.f k a0) (impl_quadsOf.f (k + 1) a0) := by
 intro a0 k
 obtain ⟨ih0, ih1⟩ := impl_quadsOf.mono_l k
 unfold impl_quadsOf.f
 repeat' first
   | (with_reducible exact ih0 _ _ _ _ _)
   | (with_reducible exact ih1 _ _ _ _ _ _ _ _ _)
   | (with_reducible exact impl_triplesOf.mono _ _)
   | (with_reducible exact LeO.refl _)
   | (with_reducible exact LeO.none _)
   | (with_reducible refine LeO.ite ?_ ?_)
   | (with_reducible refine LeO.bind ?_ (fun _ => ?_))
set_option maxHeartbeats 8000000 in
set_option maxRecDepth 100000 in
theorem impl_quadsOf.calls (k : Nat) (a0 : Int) (r : List (S62)) (w : World) (h : impl_quadsOf.f k a0 = some r) :
  Calls Tryz.prog 44 #[.int .i64 a0] w fun e w' => ∃ v0_ : Value, e = .returned (v0_) ∧ Kd.R k62 62 w' w.heap.size (fun _ => True) v0_ r ∧ Below w.heap.size w w' := by
 have hu59 := Tryz.underlying59
 have hu62 := Tryz.underlying62
 have HB := aM_ (Below.refl w.heap.size w)
 have H : ((impl_triplesOf.f k a0).bind fun t101 => (impl_quadsOf.l0 k a0 ([] : List (S62)) t101 (t101.length : Int) 0)) = some r := h
 clear h
 replace H := oB_ H
 obtain ⟨t101, A20, H⟩ := H
 have A2 := aM_ A20
 clear A20
 have H' := aM_ H
 clear H
 go_enter Tryz.func44, Tryz.ntmps44
 go_wp2_with (first | ((with_reducible refine gate_callee (f := 38) rfl ?_); refine goesM_ (some 8) Tryz.func38 #[.int .i64 a0] ?_; (with_reducible refine (impl_triplesOf.calls k a0 t101 _ A2.out).mono ?_); rintro e w3 ⟨v102, rfl, ho0, hb⟩; refine ⟨_, rfl, ?_⟩; have HO103 := aM_ (Kd.R_lower ho0 (below_size (bB_ HB))); replace HB := aM_ (below_step (bB_ HB) hb); (try clear hb); (try clear hk); (try clear ho0); obtain ⟨Ao4, co4, eo4⟩ := Kd.R_slice HO103.out; subst eo4))
 go_loopg [3, 10] k (fun kq v3 v10 w' => ∃ (x3_1 : List (S62)) (x10_1 : Int), v10 = .int .i64 x10_1 ∧ Aside0 (impl_quadsOf.l0 kq a0 x3_1 t101 (t101.length : Int) x10_1 = some r) ∧ Aside0 (kq ≤ k) ∧ Aside0 (Kd.R k62 62 w' w.heap.size (fun _ => True) v3 x3_1) ∧ Aside0 (Kd.R k59 59 w' w.heap.size (fun _ => True) (.slice Ao4 t101.length co4) t101) ∧ Aside0 (Below w.heap.size w w'))
 case atStart => exact ⟨(([] : List (S62))), (0), veq_, H', ⟨Nat.le_refl _⟩, ⟨by first | exact Kd.R_nil _ _ _ _ _ | exact Kd.N_nil _ _ _ _ _ | exact Kd.V_nil _ _ _ _ _ | exact Kd.Q_nil _ _ _ _ _ | exact Kd.S_nil _ _ _ _ _⟩, ⟨kr_ HO103⟩, ⟨bB_ HB⟩⟩
 case round =>
  clear H'
  obtain ⟨x3_1, x10_1, rfl, HA, HK1, HO_3, HO_8, HB⟩ := hrel
  cases gk with
  | zero => exact absurd HA.out (by simp [impl_quadsOf.l0])
  | succ k1 =>
   have H := HA.out
   clear HA
   simp only [impl_quadsOf.l0] at H
   rcases ifd_ H with ⟨c5b0, H⟩ | ⟨c5b0, H⟩
   ·obtain ⟨c6b0, H⟩ := ifn_ H
    obtain ⟨c7b0, H⟩ := ifn_ H
    have H' := aM_ H
    clear H
    obtain ⟨p104, q104, ad104, e104, hx104_0, hx104_1, hx104_2⟩ := atW_ (at_T59 (Kd.R_reads' HO_8.out).2.2 x10_1)
    cases e104
    go_wp2_with (first | ((with_reducible refine gate_dst (N := 5) rfl ?_); refine boxE_ (N := 5) #[.int .i64 0, .int .i64 0, .int .i64 0] 59 ?_; intro gb105 hg w8 hbox hb; replace HO_3 := aM_ (Kd.R_below (kr_ HO_3) hb); replace HO_8 := aM_ (Kd.R_below (Kd.R_elderB (kr_ HO_8) gb105 (Nat.le_of_eq hg.symm)) hb); have BK105 := aM_ (hbox); have GW105 := aM_ ((bs_ HB hg)); have GE105 := aM_ ((bs_ HB hg)); replace HB := aM_ (below_step (bB_ HB) hb); clear hb hbox hg; have hcz9_0 := bc_ BK105 0; have hcz9_1 := bc_ BK105 1; have hcz9_2 := bc_ BK105 2; have hfz9_0 := blk_frozen BK105.out 0; have hfz9_1 := blk_frozen BK105.out 1; have hfz9_2 := blk_frozen BK105.out 2))
    go_loopg [3, 6] k1 (fun kq v3 v6 w' => ∃ (x3_2 : List (S62)) (x6_2 : Int), v6 = .int .i64 x6_2 ∧ Aside0 (impl_quadsOf.l1 kq a0 x3_2 x6_2 t101 (t101.length : Int) x10_1 ((rd_T59 t101 x10_1).f0) ((rd_T59 t101 x10_1).f1) ((rd_T59 t101 x10_1).f2) = some r) ∧ Aside0 (kq ≤ k1) ∧ Aside0 (Kd.R k62 62 w' w.heap.size (fun _ => True) v3 x3_2) ∧ Aside0 (Kd.R k59 59 w' w.heap.size (fun k_ => k_ ≠ gb105) (.slice (some ad104) t101.length co4) t101) ∧ Aside0 (w'.heap[gb105]? = some (.cells #[.int .i64 ((rd_T59 t101 x10_1).f0), .int .i64 ((rd_T59 t101 x10_1).f1), .int .i64 ((rd_T59 t101 x10_1).f2)] 59 (0, 0))) ∧ Aside0 (Below w.heap.size w w'))
    case atStart => exact ⟨(x3_1), (wrap64 (((rd_T59 t101 x10_1).f2) + 1)), veq_, H', ⟨Nat.le_refl _⟩, ⟨by (with_reducible repeat (first | apply kA_ | apply kN_ | apply kD_)); exact Kd.R_mono (Kd.R_far (p := ⟨gb105, 2, none⟩) (Kd.R_far (p := ⟨gb105, 1, none⟩) (Kd.R_far (p := ⟨gb105, 0, none⟩) (Kd.R_types HO_3.out BK105.out (by decide)) (fun _ hk => hk.2) (.int .i64 ((rd_T59 t101 x10_1).f0))) (fun _ hk => hk.2) (.int .i64 ((rd_T59 t101 x10_1).f1))) (fun _ hk => hk.2) (.int .i64 ((rd_T59 t101 x10_1).f2))) (fun _ hk => trivial)⟩, ⟨by (with_reducible repeat (first | apply kA_ | apply kN_ | apply kD_)); exact Kd.R_mono (Kd.R_far (p := ⟨gb105, 2, none⟩) (Kd.R_far (p := ⟨gb105, 1, none⟩) (Kd.R_far (p := ⟨gb105, 0, none⟩) (Kd.R_mono HO_8.out (fun k_ hk => (⟨hk, hk.2⟩ : _ ∧ k_ ≠ gb105))) (fun _ hk => hk.2) (.int .i64 ((rd_T59 t101 x10_1).f0))) (fun _ hk => hk.2) (.int .i64 ((rd_T59 t101 x10_1).f1))) (fun _ hk => hk.2) (.int .i64 ((rd_T59 t101 x10_1).f2))) (fun _ hk => hk.1.2)⟩, ⟨by (with_reducible repeat (first | refine blk_drewN ?_ _ | refine blk_drew ?_ | refine blk_alloc ?_ _)); refine blk_put (cs := #[.int .i64 ((rd_T59 t101 x10_1).f0), .int .i64 ((rd_T59 t101 x10_1).f1), .int .i64 0]) ?_ 2 _ rfl; (with_reducible repeat (first | refine blk_drewN ?_ _ | refine blk_drew ?_ | refine blk_alloc ?_ _)); refine blk_put (cs := #[.int .i64 ((rd_T59 t101 x10_1).f0), .int .i64 0, .int .i64 0]) ?_ 1 _ rfl; (with_reducible repeat (first | refine blk_drewN ?_ _ | refine blk_drew ?_ | refine blk_alloc ?_ _)); refine blk_put (cs := #[.int .i64 0, .int .i64 0, .int .i64 0]) ?_ 0 _ rfl; (with_reducible repeat (first | refine blk_drewN ?_ _ | refine blk_drew ?_ | refine blk_alloc ?_ _)); exact BK105.out⟩, ⟨bB_ HB⟩⟩
    case round =>
     clear H'
     try clear c5b0
     try clear c6b0
     try clear c7b0
     try clear hcz9_0
     try clear hcz9_1
     try clear hcz9_2
     try clear hfz9_0
     try clear hfz9_1
     try clear hfz9_2
     try clear hx104_0
     try clear hx104_1
     try clear hx104_2
     try clear p104
     try clear q104
     obtain ⟨x3_2, x6_2, rfl, HA, HK2, HO_3, HO_8, BK105, HB⟩ := hrel
     cases gk with
     | zero => exact absurd HA.out (by simp [impl_quadsOf.l1])
     | succ k2 =>
      have H := HA.out
      clear HA
      simp only [impl_quadsOf.l1] at H
      rcases ifd_ H with ⟨c10b0, H⟩ | ⟨c10b0, H⟩
      ·obtain ⟨c11, H⟩ := ifp_ H
       have LMc11 := aM_ c11
       clear c11
       obtain ⟨y106, hy106⟩ : ∃ y_ : List (S62), y_ = (x3_2 ++ [(⟨((rd_T59 t101 x10_1).f0), ((rd_T59 t101 x10_1).f1), ((rd_T59 t101 x10_1).f2), x6_2⟩ : S62)]) := ⟨_, rfl⟩
       replace H : (impl_quadsOf.l1 k2 a0 y106 (wrap64 (x6_2 + 1)) t101 (t101.length : Int) x10_1 ((rd_T59 t101 x10_1).f0) ((rd_T59 t101 x10_1).f1) ((rd_T59 t101 x10_1).f2)) = some r := by first | (rw [hy106]; with_reducible exact H) | (have H2_ := (Option.bind_some _ _).symm.trans H; rw [hy106]; with_reducible exact H2_) | (have H2_ := (Option.bind_some _ _).symm.trans H; with_reducible exact H2_) | with_reducible exact H | (rw [hy106]; exact H) | exact H
       have Ny106 := aM_ hy106
       clear hy106
       have H' := aM_ H
       clear H
       have hcz12_0 := bc_ BK105 0
       have hcz12_1 := bc_ BK105 1
       have hcz12_2 := bc_ BK105 2
       have hfz12_0 := blk_frozen BK105.out 0
       have hfz12_1 := blk_frozen BK105.out 1
       have hfz12_2 := blk_frozen BK105.out 2
       go_wp2_with (first | ((with_reducible refine gate_builtin (b := .append) (xs := #[.tmp 22, .tmp 31]) rfl ?_); at_builtin; refine Kd.R_append k62 (w0 := w) w.heap.size rfl (.tmp 22) (.tmp 31) 60 62 (.agg #[(.int .i64 0), (.int .i64 0), (.int .i64 0), (.int .i64 0)]) 32 rfl Tryz.underlying60 info62 rfl (by decide) (by omega) u3 x3_2 (⟨((rd_T59 t101 x10_1).f0), ((rd_T59 t101 x10_1).f1), ((rd_T59 t101 x10_1).f2), x6_2⟩ : S62) [.int .i64 ((rd_T59 t101 x10_1).f0), .int .i64 ((rd_T59 t101 x10_1).f1), .int .i64 ((rd_T59 t101 x10_1).f2), .int .i64 x6_2] (fun _ => True) (fun _ => False) rfl rfl ?aP (fun _ hk => hk.elim) ?aF ?aO ?aB ?aS ?aL ?_; (case aP => exact k62_mkM _ _ _ (⟨((rd_T59 t101 x10_1).f0), ((rd_T59 t101 x10_1).f1), ((rd_T59 t101 x10_1).f2), x6_2⟩ : S62)); (case aB => exact (bB_ HB)); (case aF => exact (fun _ _ => trivial)); (case aO => exact (kr_ HO_3)); (case aS => exact (below_size (bB_ HB))); (case aL => have := LMc11.out; omega); intro v107 w13 ho hb hg hat; rw [← Ny106.out] at ho; replace HO_8 := aM_ (Kd.R_over' (kr_ HO_8) (Kd.R_typed (kr_ HO_3)) (by decide) hg); replace BK105 := aM_ (blk_grown (g := gb105) (o := .cells #[.int .i64 ((rd_T59 t101 x10_1).f0), .int .i64 ((rd_T59 t101 x10_1).f1), .int .i64 ((rd_T59 t101 x10_1).f2)] 59 (0, 0)) (bk_ BK105) hg (Kd.R_ne HO_3.out BK105.out (by decide))); replace HB := aM_ (hb); have HO108 := aM_ (ho); clear HO_3; clear ho hb hg hat))
       go_roundg k2
       case measure => have := HK1.out; have := HK2.out; omega
       case rel => exact ⟨(y106), (wrap64 (x6_2 + 1)), veq_, H', ⟨by have := HK1.out; have := HK2.out; omega⟩, ⟨kr_ HO108⟩, ⟨kr_ HO_8⟩, ⟨bk_ BK105⟩, ⟨bB_ HB⟩⟩
      ·have H' := aM_ H
       clear H
       go_wp2
       go_roundg k2
       case measure => have := HK1.out; have := HK2.out; omega
       case rel => exact ⟨(x3_2), (wrap64 (x10_1 + 1)), veq_, H', ⟨by have := HK1.out; have := HK2.out; omega⟩, ⟨kr_ HO_3⟩, ⟨by (with_reducible repeat (first | apply kA_ | apply kN_ | apply kD_)); exact Kd.R_mono HO_8.out (fun _ hk => trivial)⟩, ⟨bB_ HB⟩⟩
   ·obtain rfl := Option.some.inj H
    go_wp2
    go_ret
    exact ⟨_, verr_, kr_ HO_3, bB_ HB⟩
end Go.Proofs.YteaagaekdkolnaaGreatDoor.P

