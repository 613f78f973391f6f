/- A part of the proof of FnExactIsGridInside: printed contracts and plain laws, joined by a program of this session. -/
import Derived.Test.YtijgjpfbhbggdaaZFnExactIsGridInside5
import Derived.KernelRfl
import Derived.Deep.Slices
import Derived.ChangeOld
import Derived.Carry
namespace Go.Proofs.Ytijgjpfbhbggdaa.Pure
open Go.RowKit Go.Proofs.Ytijgjpfbhbggdaa.P Go.Proofs.YtijgjpfbhbggdaaW.PrintWords Go.Proofs.YtijgjpfbhbggdaaW.PrintLast Go.Proofs.Ytijgjpfbhbggdaa.Com
set_option linter.unusedSimpArgs false
set_option linter.unusedVariables false

def mk3 (t : Int × Int × Int) : S65 := ⟨t.1, t.2.1, t.2.2⟩
theorem trips_0 : impl_triplesOf.f 200 (0 : Nat) = some ((trips 0).map mk3) := by kernel_rfl
theorem trips_1 : impl_triplesOf.f 200 (1 : Nat) = some ((trips 1).map mk3) := by kernel_rfl
theorem trips_2 : impl_triplesOf.f 200 (2 : Nat) = some ((trips 2).map mk3) := by kernel_rfl
theorem trips_3 : impl_triplesOf.f 200 (3 : Nat) = some ((trips 3).map mk3) := by kernel_rfl
theorem trips_4 : impl_triplesOf.f 200 (4 : Nat) = some ((trips 4).map mk3) := by kernel_rfl
theorem trips_5 : impl_triplesOf.f 200 (5 : Nat) = some ((trips 5).map mk3) := by kernel_rfl
theorem trips_6 : impl_triplesOf.f 200 (6 : Nat) = some ((trips 6).map mk3) := by kernel_rfl
theorem trips_7 : impl_triplesOf.f 200 (7 : Nat) = some ((trips 7).map mk3) := by kernel_rfl
theorem triples_eq (n : Nat) (hn : n ≤ 7) : Ev (fun k => impl_triplesOf.f k (n : Int)) ((trips n).map mk3) := by
  have h : impl_triplesOf.f 200 (n : Int) = some ((trips n).map mk3) := by
    have z : n = 0 ∨ n = 1 ∨ n = 2 ∨ n = 3 ∨ n = 4 ∨ n = 5 ∨ n = 6 ∨ n = 7 := by omega
    rcases z with rfl | rfl | rfl | rfl | rfl | rfl | rfl | rfl
    · exact trips_0
    · exact trips_1
    · exact trips_2
    · exact trips_3
    · exact trips_4
    · exact trips_5
    · exact trips_6
    · exact trips_7
  exact Ev.of (fun k => impl_triplesOf.mono _ k) h
end Go.Proofs.Ytijgjpfbhbggdaa.Pure

namespace Go.Proofs.Ytijgjpfbhbggdaa.Pure
open Go.RowKit Go.Proofs.Ytijgjpfbhbggdaa.P Go.Proofs.YtijgjpfbhbggdaaW.PrintWords Go.Proofs.YtijgjpfbhbggdaaW.PrintLast Go.Proofs.Ytijgjpfbhbggdaa.Com
set_option linter.unusedSimpArgs false
set_option linter.unusedVariables false

/-- Twice the area of three points of a list, with its sign. -/
def areaL (l : List S25) (i j k : Int) : Int := areaW (rd_T25 l i).f0 (rd_T25 l i).f1 (rd_T25 l j).f0 (rd_T25 l j).f1 (rd_T25 l k).f0 (rd_T25 l k).f1
def fits50 (l : List S25) (i : Int) : Bool := inB (rd_T25 l i).f0 50 && inB (rd_T25 l i).f1 50
def nz (l : List S25) (i j k : Int) : Bool := !(areaL l i j k == 0)
/-- Three to seven points with coordinates between -50 and 50, no three of them on a line. -/
def pointsB (l : List S25) : Bool := decide (3 ≤ l.length ∧ l.length ≤ 7) && (ints 0 l.length).all fun k => fits50 l k && (ints 0 k.toNat).all fun j => (ints 0 j.toNat).all fun i => nz l i j k
theorem pointsB_iff (l : List S25) : pointsB l = true ↔ (3 ≤ l.length ∧ l.length ≤ 7) ∧ (∀ i : Int, 0 ≤ i → i < l.length → fits50 l i = true) ∧ (∀ i j k : Int, 0 ≤ i → i < j → j < k → k < l.length → areaL l i j k ≠ 0) := by
  unfold pointsB
  simp only [Bool.and_eq_true, decide_eq_true_eq, List.all_eq_true, ints_mem_iff, nz, Bool.not_eq_true', beq_eq_false_iff_ne]
  constructor
  · rintro ⟨hl, h⟩
    refine ⟨hl, fun i h0 h1 => (h i ⟨h0, by omega⟩).1, fun i j k h0 h1 h2 h3 => ?_⟩
    exact (h k ⟨by omega, by omega⟩).2 j ⟨by omega, by omega⟩ i ⟨by omega, by omega⟩
  · rintro ⟨hl, hf, ha⟩
    refine ⟨hl, fun k hk => ⟨hf k hk.1 (by omega), fun j hj i hi => ha i j k (by omega) (by omega) (by omega) (by omega)⟩⟩
theorem l2Area_L (l : List S25) (i j k : Int) : spec_l2Area.f (rd_T25 l i).f0 (rd_T25 l i).f1 (rd_T25 l j).f0 (rd_T25 l j).f1 (rd_T25 l k).f0 (rd_T25 l k).f1 = some (areaL l i j k) := l2Area_eq _ _ _ _ _ _
theorem spec_ArePoints_ev (l : List S25) (hl : l.length ≤ 1099511627776) : Ev (fun k => spec_ArePoints.f k l) (pointsB l) := by
  simp only [spec_ArePoints.f, l1In_eq, Option.bind_some]
  by_cases h : 3 ≤ l.length ∧ l.length ≤ 7
  · refine Ev.iteT (by simp; omega) ?_
    have e : pointsB l = (ints 0 l.length).all fun k => fits50 l k && (ints 0 k.toNat).all fun j => (ints 0 j.toNat).all fun i => nz l i j k := by unfold pointsB; rw [decide_eq_true h]; simp
    rw [e]
    refine rangeLoop (σ := Unit) (l := fun k _ i => spec_ArePoints.l0 k l i) (l.length : Int) (T := allT _) (allT_mono _) (C := fun _ r => r = true) 0 ?_ ?_ l.length 0 (by omega) (by omega) () _ (allT_done _ _ _ rfl)
    · intro _ k hk0 hkn r hT
      rw [← allT_nest (fun k j => (ints 0 j.toNat).all fun i => nz l i j k) (fits50 l) (fun k => ints 0 k.toNat)] at hT
      refine Ev.step (f := fun q => if fits50 l k = true then spec_ArePoints.l1 q l k 0 else some false) (fun q => ?_) ?_
      · simp only [spec_ArePoints.l0]
        rw [if_pos hkn, if_pos hk0, l2Fits_eq _ _ 50 (by omega) (by omega)]; rfl
      cases hf : fits50 l k with
      | false => rw [hf] at hT; simp only [Bool.false_eq_true, if_false] at hT ⊢; subst hT; exact Ev.now _
      | true =>
        rw [hf] at hT; simp only [if_true] at hT ⊢
        refine rangeLoop (σ := Unit) (l := fun q _ j => spec_ArePoints.l1 q l k j) k (T := allT fun j => (ints 0 j.toNat).all fun i => nz l i j k) (allT_mono _) (C := fun s r => Ev (fun q => spec_ArePoints.l0 q l (k + 1)) r) 0 ?_ ?_ k.toNat 0 (by omega) (by omega) () r hT
        · intro _ j hj0 hjk r hT
          refine Ev.step (f := fun q => spec_ArePoints.l2 q l k j 0) (fun q => by simp only [spec_ArePoints.l1]; rw [if_pos hjk]) ?_
          have hT2 : foldT (allT fun i => nz l i j k) (fun _ r => Ev (fun q => spec_ArePoints.l1 q l k (j + 1)) r) (ints 0 j.toNat) () r := by rw [allT_fold]; exact hT
          refine rangeLoop (σ := Unit) (l := fun q _ i => spec_ArePoints.l2 q l k j i) j (T := allT fun i => nz l i j k) (allT_mono _) 0 ?_ ?_ j.toNat 0 (by omega) (by omega) () r hT2
          · intro _ i hi0 hij r hT
            refine Ev.step (f := fun q => if areaL l i j k = 0 then some false else spec_ArePoints.l2 q l k j (i + 1)) (fun q => ?_) ?_
            · simp only [spec_ArePoints.l2]
              rw [if_pos hij, if_pos hi0, if_pos (by omega), if_pos hj0, if_pos (by omega), if_pos hk0, if_pos hkn, l2Area_L, w64 (by omega) (by omega)]; rfl
            by_cases hz : areaL l i j k = 0
            · have : r = false := by simpa [allT, nz, hz] using hT
              subst this; exact Ev.iteT hz (Ev.now _)
            · refine Ev.iteF hz ?_; simpa [allT, nz, hz] using hT
          · intro _ r hC
            refine Ev.step (f := fun q => spec_ArePoints.l1 q l k (j + 1)) (fun q => ?_) hC
            simp only [spec_ArePoints.l2]
            rw [if_neg (by omega), w64 (by omega) (by omega)]
        · intro _ r hC
          refine Ev.step (f := fun q => spec_ArePoints.l0 q l (k + 1)) (fun q => ?_) hC
          simp only [spec_ArePoints.l1]
          rw [if_neg (by omega), w64 (by omega) (by omega)]
    · intro _ r hC
      subst hC
      refine Ev.step (f := fun _ => some true) (fun q => ?_) (Ev.now true)
      simp only [spec_ArePoints.l0]
      rw [if_neg (by omega)]
  · have e : pointsB l = false := by unfold pointsB; rw [decide_eq_false h]; rfl
    rw [e]
    exact Ev.iteF (by simp; omega) (Ev.now _)
theorem sgn_zero (x : Int) : sgn x = 0 ↔ x = 0 := by unfold sgn; split <;> (try split) <;> omega
theorem fits50_all (l : List S25) : (l.all fun p => inB p.f0 50 && inB p.f1 50) = (ints 0 l.length).all (fits50 l) := by
  rw [Bool.eq_iff_iff]
  simp only [List.all_eq_true, ints_mem_iff]
  constructor
  · intro h i hi
    exact h (rd_T25 l i) (getD_mem l i.toNat z25 (by omega))
  · intro h p hp
    obtain ⟨n, hn, rfl⟩ := List.mem_iff_getElem.1 hp
    have := h (n : Int) (by omega)
    simpa [fits50, rd_T25, List.getD, List.getElem?_eq_getElem hn] using this
theorem TurnOf_in (l : List S25) (i j k : Int) (hi : fits50 l i = true) (hj : fits50 l j = true) (hk : fits50 l k = true) :
    impl_TurnOf.f (rd_T25 l i).f0 (rd_T25 l i).f1 (rd_T25 l j).f0 (rd_T25 l j).f1 (rd_T25 l k).f0 (rd_T25 l k).f1 = some (sgn (areaL l i j k)) := by
  rw [TurnOf_eq, if_pos]; · rfl
  simp only [fits50, Bool.and_eq_true, inB_iff] at *
  omega
theorem impl_ArePoints_ev (l : List S25) (hl : l.length ≤ 1099511627776) : Ev (fun k => impl_ArePoints.f k l) (pointsB l) := by
  have stop : Ev (fun k => impl_ArePoints.j0 k l true) false := Ev.step (f := fun _ => some false) (fun k => by simp only [impl_ArePoints.j0, if_true]) (Ev.now _)
  simp only [impl_ArePoints.f, areNear_eq 50 _ (show (0 : Int) ≤ 50 by omega) (by omega), Option.bind_some]
  by_cases h3 : (l.length : Int) < 3
  · have e : pointsB l = false := by unfold pointsB; rw [decide_eq_false (by omega)]; rfl
    rw [e]; exact Ev.iteT h3 stop
  refine Ev.iteF h3 ?_
  by_cases h7 : (l.length : Int) > 7
  · have e : pointsB l = false := by unfold pointsB; rw [decide_eq_false (by omega)]; rfl
    rw [e]; exact Ev.iteT h7 stop
  refine Ev.iteF h7 ?_
  rw [fits50_all]
  cases hf : (ints 0 l.length).all (fits50 l) with
  | false =>
    have e : pointsB l = false := by
      rw [Bool.eq_false_iff]; intro hp
      rw [pointsB_iff] at hp
      rw [List.all_eq_false] at hf
      obtain ⟨x, hx, hx'⟩ := hf
      rw [ints_mem_iff] at hx
      exact hx' (hp.2.1 x hx.1 (by omega))
    rw [e]; exact stop
  | true =>
    have hF : ∀ i, 0 ≤ i → i < (l.length : Int) → fits50 l i = true := fun i h0 h1 => by
      rw [List.all_eq_true] at hf; exact hf i (by rw [ints_mem_iff]; omega)
    refine Ev.step (f := fun k => (impl_triplesOf.f k (l.length : Int)).bind fun t => impl_ArePoints.l0 k l t (t.length : Int) 0) (fun k => by simp only [impl_ArePoints.j0, Bool.not_true, Bool.false_eq_true, if_false]) ?_
    refine Ev.bind (triples_eq l.length (by omega)) ?_
    have e : pointsB l = ((trips l.length).map mk3).all fun t => nz l t.f0 t.f1 t.f2 := by
      rw [Bool.eq_iff_iff, pointsB_iff]
      simp only [List.all_eq_true, List.mem_map]
      constructor
      · rintro ⟨_, _, ha⟩ t ⟨⟨i, j, k⟩, hm, rfl⟩
        rw [trips_mem] at hm
        simp only [mk3, nz, Bool.not_eq_true', beq_eq_false_iff_ne]
        exact ha i j k hm.1 hm.2.1 hm.2.2.1 hm.2.2.2
      · intro h
        refine ⟨by omega, hF, fun i j k h0 h1 h2 h3 => ?_⟩
        have := h _ ⟨(i, j, k), by rw [trips_mem]; omega, rfl⟩
        simpa [mk3, nz] using this
    rw [e]
    refine listLoop0 (σ := Unit) (l := fun q _ i => impl_ArePoints.l0 q l _ _ i) ((trips l.length).map mk3) z65 (T := allT _) (allT_mono _) (C := fun _ r => r = true) ?_ ?_ () _ (allT_done _ _ _ rfl)
    · intro _ i hi0 hin r hT
      have hm : ((trips l.length).map mk3).getD i.toNat z65 ∈ (trips l.length).map mk3 := getD_mem _ _ _ (by omega)
      generalize hg : ((trips l.length).map mk3).getD i.toNat z65 = t at hm hT
      have hr : rd_T65 ((trips l.length).map mk3) i = t := hg
      obtain ⟨⟨a, b, c⟩, hm3, rfl⟩ := List.mem_map.1 hm
      clear hm
      have hm := trips_mem.1 hm3
      refine Ev.step (f := fun q => if sgn (areaL l a b c) = 0 then some false else impl_ArePoints.l0 q l ((trips l.length).map mk3) (((trips l.length).map mk3).length : Int) (i + 1)) (fun q => ?_) ?_
      · simp only [impl_ArePoints.l0, hr, mk3]
        have hlen : i < (((trips l.length).map mk3).length : Int) := hin
        have hb : (((trips l.length).map mk3).length : Int) ≤ 35 := by
          have : l.length = 3 ∨ l.length = 4 ∨ l.length = 5 ∨ l.length = 6 ∨ l.length = 7 := by omega
          rcases this with h | h | h | h | h <;> rw [h] <;> decide +kernel
        rw [if_pos hlen, if_pos hi0, if_pos (by omega), if_pos (by omega), if_pos (by omega), if_pos (by omega), if_pos (by omega), if_pos (by omega), if_pos (by omega), TurnOf_in l a b c (hF a (by omega) (by omega)) (hF b (by omega) (by omega)) (hF c (by omega) (by omega)), w64 (by omega) (by omega)]; rfl
      by_cases hz : areaL l a b c = 0
      · have : r = false := by simpa [allT, nz, mk3, hz] using hT
        subst this; exact Ev.iteT ((sgn_zero _).2 hz) (Ev.now _)
      · refine Ev.iteF (fun h => hz ((sgn_zero _).1 h)) ?_; simpa [allT, nz, mk3, hz] using hT
    · intro _ r hC
      subst hC
      refine Ev.step (f := fun _ => some true) (fun q => ?_) (Ev.now true)
      simp only [impl_ArePoints.l0]
      rw [if_neg (by omega)]
end Go.Proofs.Ytijgjpfbhbggdaa.Pure

namespace Go.Proofs.Ytijgjpfbhbggdaa.Pure
open Go.RowKit Go.Proofs.Ytijgjpfbhbggdaa.P Go.Proofs.YtijgjpfbhbggdaaW.PrintWords Go.Proofs.YtijgjpfbhbggdaaW.PrintLast Go.Proofs.Ytijgjpfbhbggdaa.Com
set_option linter.unusedSimpArgs false
set_option linter.unusedVariables false

theorem tix_inj {a b c d e f : Int} (ha : in7 a) (hb : in7 b) (hc : in7 c) (hd : in7 d) (he : in7 e) (hf : in7 f) (h : tix a b c = tix d e f) : a = d ∧ b = e ∧ c = f := by
  unfold in7 at *
  unfold tix at h
  omega
/-- Signs of three elements below n: another order of two changes the sign. -/
structure Chi (n : Int) (X : Int → Int → Int → Int) : Prop where
  le : n ≤ 7
  s1 : ∀ i j k, 0 ≤ i → i < n → 0 ≤ j → j < n → 0 ≤ k → k < n → i ≠ j → j ≠ k → i ≠ k → X j i k = -X i j k
  s2 : ∀ i j k, 0 ≤ i → i < n → 0 ≤ j → j < n → 0 ≤ k → k < n → i ≠ j → j ≠ k → i ≠ k → X i k j = -X i j k
  pm : ∀ i j k, 0 ≤ i → i < n → 0 ≤ j → j < n → 0 ≤ k → k < n → i ≠ j → j ≠ k → i ≠ k → X i j k = 1 ∨ X i j k = -1
def setX (X : Int → Int → Int → Int) (T : Nat → Int) (t : S65) : Nat → Int := setT T t.f0 t.f1 t.f2 (X t.f0 t.f1 t.f2)
/-- What stands in a table behind one more triple. -/
theorem setX_at {n : Int} {X : Int → Int → Int → Int} (hX : Chi n X) (T : Nat → Int) (t : S65) (h0 : 0 ≤ t.f0) (h1 : t.f0 < t.f1) (h2 : t.f1 < t.f2) (h3 : t.f2 < n) (i j k : Int) (hi : 0 ≤ i ∧ i < n) (hj : 0 ≤ j ∧ j < n) (hk : 0 ≤ k ∧ k < n) (hij : i ≠ j) (hjk : j ≠ k) (hik : i ≠ k) :
    setX X T t (tix i j k) = X i j k ∨ (setX X T t (tix i j k) = T (tix i j k) ∧ ¬ ((i = t.f0 ∨ i = t.f1 ∨ i = t.f2) ∧ (j = t.f0 ∨ j = t.f1 ∨ j = t.f2) ∧ (k = t.f0 ∨ k = t.f1 ∨ k = t.f2))) := by
  obtain ⟨a, b, c⟩ := t
  simp only at h0 h1 h2 h3 ⊢
  have h7 := hX.le
  have ia : in7 a := ⟨by omega, by omega⟩
  have ib : in7 b := ⟨by omega, by omega⟩
  have ic : in7 c := ⟨by omega, by omega⟩
  have ii : in7 i := ⟨by omega, by omega⟩
  have ij : in7 j := ⟨by omega, by omega⟩
  have ik : in7 k := ⟨by omega, by omega⟩
  have e1 := hX.s1 a b c h0 (by omega) (by omega) (by omega) (by omega) h3 (by omega) (by omega) (by omega)
  have e2 := hX.s2 a b c h0 (by omega) (by omega) (by omega) (by omega) h3 (by omega) (by omega) (by omega)
  have e3 := hX.s2 b a c (by omega) (by omega) (by omega) (by omega) (by omega) h3 (by omega) (by omega) (by omega)
  have e4 := hX.s1 a c b (by omega) (by omega) (by omega) (by omega) (by omega) (by omega) (by omega) (by omega) (by omega)
  have e5 := hX.s2 c a b (by omega) (by omega) (by omega) (by omega) (by omega) (by omega) (by omega) (by omega) (by omega)
  have ep := hX.pm a b c h0 (by omega) (by omega) (by omega) (by omega) h3 (by omega) (by omega) (by omega)
  have ew : wrap64 (-X a b c) = -X a b c := by rcases ep with e | e <;> rw [e] <;> decide +kernel
  simp only [setX, setT, upT, ew]
  by_cases z1 : tix i j k = tix b a c
  · obtain ⟨rfl, rfl, rfl⟩ := tix_inj ii ij ik ib ia ic z1
    left; rw [if_pos rfl]; omega
  rw [if_neg z1]
  by_cases z2 : tix i j k = tix c b a
  · obtain ⟨rfl, rfl, rfl⟩ := tix_inj ii ij ik ic ib ia z2
    left; rw [if_pos rfl]; omega
  rw [if_neg z2]
  by_cases z3 : tix i j k = tix a c b
  · obtain ⟨rfl, rfl, rfl⟩ := tix_inj ii ij ik ia ic ib z3
    left; rw [if_pos rfl]; omega
  rw [if_neg z3]
  by_cases z4 : tix i j k = tix c a b
  · obtain ⟨rfl, rfl, rfl⟩ := tix_inj ii ij ik ic ia ib z4
    left; rw [if_pos rfl]; omega
  rw [if_neg z4]
  by_cases z5 : tix i j k = tix b c a
  · obtain ⟨rfl, rfl, rfl⟩ := tix_inj ii ij ik ib ic ia z5
    left; rw [if_pos rfl]; omega
  rw [if_neg z5]
  by_cases z6 : tix i j k = tix a b c
  · obtain ⟨rfl, rfl, rfl⟩ := tix_inj ii ij ik ia ib ic z6
    left; rw [if_pos rfl]
  rw [if_neg z6]
  right
  refine ⟨rfl, ?_⟩
  rintro ⟨hp, hq, hr⟩
  rcases hp with rfl | rfl | rfl <;> rcases hq with rfl | rfl | rfl <;> rcases hr with rfl | rfl | rfl <;> first | exact absurd rfl hij | exact absurd rfl hjk | exact absurd rfl hik | exact absurd rfl z1 | exact absurd rfl z2 | exact absurd rfl z3 | exact absurd rfl z4 | exact absurd rfl z5 | exact absurd rfl z6
/-- The table of a chirotope. -/
theorem fold_setX {n : Int} {X : Int → Int → Int → Int} (hX : Chi n X) (T0 : Nat → Int) (L : List S65) (hL : ∀ t ∈ L, 0 ≤ t.f0 ∧ t.f0 < t.f1 ∧ t.f1 < t.f2 ∧ t.f2 < n) (i j k : Int) (hi : 0 ≤ i ∧ i < n) (hj : 0 ≤ j ∧ j < n) (hk : 0 ≤ k ∧ k < n) (hij : i ≠ j) (hjk : j ≠ k) (hik : i ≠ k)
    (hm : ∃ t ∈ L, (i = t.f0 ∨ i = t.f1 ∨ i = t.f2) ∧ (j = t.f0 ∨ j = t.f1 ∨ j = t.f2) ∧ (k = t.f0 ∨ k = t.f1 ∨ k = t.f2)) : L.foldl (setX X) T0 (tix i j k) = X i j k := by
  have key : ∀ M : List S65, (∀ t ∈ M, 0 ≤ t.f0 ∧ t.f0 < t.f1 ∧ t.f1 < t.f2 ∧ t.f2 < n) → ∀ T : Nat → Int, (T (tix i j k) = X i j k ∨ ∃ t ∈ M, (i = t.f0 ∨ i = t.f1 ∨ i = t.f2) ∧ (j = t.f0 ∨ j = t.f1 ∨ j = t.f2) ∧ (k = t.f0 ∨ k = t.f1 ∨ k = t.f2)) → M.foldl (setX X) T (tix i j k) = X i j k := by
    intro M
    induction M with
    | nil =>
      rintro _ T (h | ⟨t, ht, _⟩)
      · exact h
      · cases ht
    | cons u M ih =>
      intro hM T h
      rw [List.foldl_cons]
      refine ih (fun t ht => hM t (List.mem_cons_of_mem _ ht)) _ ?_
      obtain ⟨u0, u1, u2, u3⟩ := hM u (List.mem_cons_self ..)
      rcases setX_at hX T u u0 u1 u2 u3 i j k hi hj hk hij hjk hik with e | ⟨e, hne⟩
      · exact Or.inl e
      · rcases h with h | ⟨t, ht, hp⟩
        · exact Or.inl (by rw [e]; exact h)
        · rcases List.mem_cons.1 ht with rfl | ht
          · exact absurd hp hne
          · exact Or.inr ⟨t, ht, hp⟩
  exact key L hL T0 (Or.inr hm)
/-! ### the list of triples -/
theorem chiList_trips (n : Nat) (h : 3 ≤ n ∧ n ≤ 7) : chiList (n : Int) = (trips n).map mk3 := by
  obtain ⟨h1, h2⟩ := h
  have z : n = 3 ∨ n = 4 ∨ n = 5 ∨ n = 6 ∨ n = 7 := by omega
  have e : ∀ m : Nat, impl_triplesOf.f 200 (m : Int) = some ((trips m).map mk3) → chiList (m : Int) = (trips m).map mk3 := by
    intro m hm
    have h300 : impl_triplesOf.f 300 (m : Int) = some ((trips m).map mk3) := by
      have up : ∀ d, impl_triplesOf.f (200 + d) (m : Int) = some ((trips m).map mk3) := by
        intro d
        induction d with
        | zero => exact hm
        | succ d ih => exact impl_triplesOf.mono _ _ _ ih
      exact up 100
    unfold chiList
    rw [h300]
    rfl
  rcases z with rfl | rfl | rfl | rfl | rfl
  · exact e 3 trips_3
  · exact e 4 trips_4
  · exact e 5 trips_5
  · exact e 6 trips_6
  · exact e 7 trips_7
theorem sorted3 (i j k : Int) (hij : i ≠ j) (hjk : j ≠ k) (hik : i ≠ k) : ∃ a b c : Int, a < b ∧ b < c ∧ (i = a ∨ i = b ∨ i = c) ∧ (j = a ∨ j = b ∨ j = c) ∧ (k = a ∨ k = b ∨ k = c) ∧ (a = i ∨ a = j ∨ a = k) ∧ (c = i ∨ c = j ∨ c = k) := by
  by_cases h1 : i < j
  · by_cases h2 : j < k
    · exact ⟨i, j, k, by omega, by omega, by omega, by omega, by omega, by omega, by omega⟩
    · by_cases h3 : i < k
      · exact ⟨i, k, j, by omega, by omega, by omega, by omega, by omega, by omega, by omega⟩
      · exact ⟨k, i, j, by omega, by omega, by omega, by omega, by omega, by omega, by omega⟩
  · by_cases h2 : i < k
    · exact ⟨j, i, k, by omega, by omega, by omega, by omega, by omega, by omega, by omega⟩
    · by_cases h3 : j < k
      · exact ⟨j, k, i, by omega, by omega, by omega, by omega, by omega, by omega, by omega⟩
      · exact ⟨k, j, i, by omega, by omega, by omega, by omega, by omega, by omega, by omega⟩
/-- The whole table. -/
theorem table_at {n : Nat} (hn : 3 ≤ n ∧ n ≤ 7) {X : Int → Int → Int → Int} (hX : Chi n X) (T0 : Nat → Int) (i j k : Int) (hi : 0 ≤ i ∧ i < n) (hj : 0 ≤ j ∧ j < n) (hk : 0 ≤ k ∧ k < n) (hij : i ≠ j) (hjk : j ≠ k) (hik : i ≠ k) :
    (chiList (n : Int)).foldl (setX X) T0 (tix i j k) = X i j k := by
  rw [chiList_trips n hn]
  refine fold_setX hX T0 _ ?_ i j k hi hj hk hij hjk hik ?_
  · intro t ht
    obtain ⟨⟨a, b, c⟩, hm, rfl⟩ := List.mem_map.1 ht
    exact trips_mem.1 hm
  · obtain ⟨a, b, c, hab, hbc, h1, h2, h3, h4, h5⟩ := sorted3 i j k hij hjk hik
    exact ⟨mk3 (a, b, c), List.mem_map.2 ⟨(a, b, c), trips_mem.2 ⟨by omega, hab, hbc, by omega⟩, rfl⟩, h1, h2, h3⟩
/-! ### the text of signs -/
theorem strOfNums_bt (L : List Int) (hL : ∀ x ∈ L, 0 ≤ x ∧ x < 256) (i : Int) (h0 : 0 ≤ i) (h1 : i < L.length) : bt (strOfNums L) i = L.getD i.toNat 0 := by
  have hs : i.toNat < (strOfNums L).size := by rw [strOfNums_size]; omega
  rw [← bt_at _ _ hs]
  have hl : i.toNat < L.length := by omega
  have : (strOfNums L)[i.toNat]'hs = UInt8.ofNat (L[i.toNat]).toNat := by
    show (strOfNums L).data[i.toNat] = _
    simp [strOfNums]
  rw [this]
  have hx := hL _ (List.getElem_mem hl)
  rw [List.getD_eq_getElem?_getD, List.getElem?_eq_getElem hl]
  simp only [Option.getD_some, UInt8.toNat_ofNat']
  omega
end Go.Proofs.Ytijgjpfbhbggdaa.Pure

namespace Go.Proofs.Ytijgjpfbhbggdaa.Com
open Go.RowKit Go.Proofs.YtijgjpfbhbggdaaW.PrintWords
set_option linter.unusedSimpArgs false
set_option linter.unusedVariables false
variable {σ τ ρ υ : Type}
theorem nest_flatT {T : σ → υ → (σ → ρ → Prop) → ρ → Prop} (hT : MonoT T) (L : τ → List υ) (C : σ → ρ → Prop) (J : List τ) : ∀ s r, foldT (nestT (fun _ => T) L) C J s r ↔ foldT T C (J.flatMap L) s r := by
  induction J with
  | nil => intro s r; exact Iff.rfl
  | cons t J ih =>
    intro s r
    rw [List.flatMap_cons, foldT_append]
    exact ⟨fun h => foldT_mono hT (fun s r => (ih s r).1) (L t) s r h, fun h => foldT_mono hT (fun s r => (ih s r).2) (L t) s r h⟩
theorem foldT_mapT (T : σ → τ → (σ → ρ → Prop) → ρ → Prop) (f : υ → τ) (C : σ → ρ → Prop) (L : List υ) : ∀ s r, foldT T C (L.map f) s r ↔ foldT (fun s u => T s (f u)) C L s r := by
  induction L with
  | nil => intro s r; exact Iff.rfl
  | cons u L ih =>
    have e : foldT T C (L.map f) = foldT (fun s u => T s (f u)) C L := by funext s r; exact propext (ih s r)
    intro s r
    show T s (f u) (foldT T C (L.map f)) r ↔ T s (f u) (foldT (fun s u => T s (f u)) C L) r
    rw [e]
/-- Three loops in each other, over the ascending lists of three of n. -/
theorem tripLoopT {l0 : Nat → σ → Int → Option ρ} {l1 : Nat → σ → Int → Int → Option ρ} {l2 : Nat → σ → Int → Int → Int → Option ρ} (n : Nat) {T : σ → (Int × Int × Int) → (σ → ρ → Prop) → ρ → Prop} (hM : MonoT T) {C : σ → ρ → Prop}
    (h2 : ∀ s i j k, 0 ≤ i → i < j → j < k → k < (n : Int) → ∀ r, T s (i, j, k) (fun s' r' => Ev (fun q => l2 q s' i j (k + 1)) r') r → Ev (fun q => l2 q s i j k) r)
    (h2e : ∀ s i j, 0 ≤ i → i < j → j < (n : Int) → ∀ r, Ev (fun q => l1 q s i (j + 1)) r → Ev (fun q => l2 q s i j n) r)
    (h1 : ∀ s i j, 0 ≤ i → i < j → j < (n : Int) → ∀ r, Ev (fun q => l2 q s i j (j + 1)) r → Ev (fun q => l1 q s i j) r)
    (h1e : ∀ s i, 0 ≤ i → i < (n : Int) → ∀ r, Ev (fun q => l0 q s (i + 1)) r → Ev (fun q => l1 q s i n) r)
    (h0 : ∀ s i, 0 ≤ i → i < (n : Int) → ∀ r, Ev (fun q => l1 q s i (i + 1)) r → Ev (fun q => l0 q s i) r)
    (h0e : ∀ s r, C s r → Ev (fun q => l0 q s n) r) (s : σ) (r : ρ) (hT : foldT T C (trips n) s r) : Ev (fun q => l0 q s 0) r := by
  unfold trips at hT
  rw [← nest_flatT hM] at hT
  refine rangeLoop (l := l0) (n : Int) (nestT_mono (fun _ => hM) _) (C := C) 0 ?_ h0e n 0 (by omega) (by omega) s _ hT
  intro s i hi0 hin r hT
  refine h0 s i hi0 hin r ?_
  unfold nestT at hT
  rw [← nest_flatT hM] at hT
  refine rangeLoop (l := fun q s j => l1 q s i j) (n : Int) (nestT_mono (fun _ => hM) _) (i + 1) ?_ (fun s r h => h1e s i hi0 hin r h) ((n : Int) - 1 - i).toNat (i + 1) (by omega) (by omega) s r hT
  intro s j hj0 hjn r hT
  refine h1 s i j hi0 (by omega) hjn r ?_
  unfold nestT at hT
  rw [foldT_mapT] at hT
  refine rangeLoop (l := fun q s k => l2 q s i j k) (n : Int) (T := fun s k => T s (i, j, k)) (fun s t C D r h hh => hM s _ C D r h hh) (j + 1) ?_ (fun s r h => h2e s i j hi0 (by omega) hjn r h) ((n : Int) - 1 - j).toNat (j + 1) (by omega) (by omega) s r hT
  intro s k hk0 hkn r hT
  exact h2 s i j k hi0 (by omega) (by omega) hkn r hT
/-- A round that may put a value behind the row. -/
def pushT (g : τ → Option υ) : List υ → τ → (List υ → ρ → Prop) → ρ → Prop := fun s t C r =>
  match g t with
  | some v => s.length < 1000000 ∧ C (s ++ [v]) r
  | none => C s r
theorem pushT_mono (g : τ → Option υ) : MonoT (pushT (ρ := ρ) g) := by
  intro s t C D r h hT
  unfold pushT at *
  revert hT
  cases g t with
  | some v => exact fun hT => ⟨hT.1, h _ _ hT.2⟩
  | none => exact fun hT => h _ _ hT
theorem pushT_fold (g : τ → Option υ) (C : List υ → ρ → Prop) (L : List τ) : ∀ s r, s.length + L.length ≤ 1000000 → C (s ++ L.filterMap g) r → foldT (pushT g) C L s r := by
  induction L with
  | nil => intro s r _ h; show C s r; simpa using h
  | cons t L ih =>
    intro s r hb h
    simp only [List.length_cons] at hb
    show pushT g s t _ r
    unfold pushT
    cases hg : g t with
    | some v =>
      refine ⟨by omega, ih _ _ (by simp; omega) ?_⟩
      rw [List.filterMap_cons, hg] at h
      simpa using h
    | none =>
      refine ih _ _ (by omega) ?_
      rw [List.filterMap_cons, hg] at h
      exact h
theorem pushT_some {g : τ → Option υ} {s : List υ} {t : τ} {C : List υ → ρ → Prop} {r : ρ} {v : υ} (h : pushT g s t C r) (e : g t = some v) : s.length < 1000000 ∧ C (s ++ [v]) r := by unfold pushT at h; rw [e] at h; exact h
end Go.Proofs.Ytijgjpfbhbggdaa.Com

namespace Go.Proofs.Ytijgjpfbhbggdaa.Pure
open Go.RowKit Go.Proofs.Ytijgjpfbhbggdaa.P Go.Proofs.YtijgjpfbhbggdaaW.PrintWords Go.Proofs.YtijgjpfbhbggdaaW.PrintLast Go.Proofs.Ytijgjpfbhbggdaa.Com
set_option linter.unusedSimpArgs false
set_option linter.unusedVariables false

/-! ### areas -/
theorem mul_100 (p q : Int) (h1 : -100 ≤ p) (h2 : p ≤ 100) (h3 : -100 ≤ q) (h4 : q ≤ 100) : -10000 ≤ p * q ∧ p * q ≤ 10000 := by
  have a1 := Int.mul_nonneg (show 0 ≤ 100 - p by omega) (show 0 ≤ 100 + q by omega)
  have a2 := Int.mul_nonneg (show 0 ≤ 100 + p by omega) (show 0 ≤ 100 - q by omega)
  have a3 := Int.mul_nonneg (show 0 ≤ 100 - p by omega) (show 0 ≤ 100 - q by omega)
  have a4 := Int.mul_nonneg (show 0 ≤ 100 + p by omega) (show 0 ≤ 100 + q by omega)
  constructor <;> grind
abbrev PL := List S25
def pX (l : PL) (i : Int) : Int := (rd_T25 l i).f0
def pY (l : PL) (i : Int) : Int := (rd_T25 l i).f1
def arL (l : PL) (i j k : Int) : Int := (pX l j - pX l i) * (pY l k - pY l i) - (pY l j - pY l i) * (pX l k - pX l i)
theorem areaL_ar (l : PL) (i j k : Int) (hi : fits50 l i = true) (hj : fits50 l j = true) (hk : fits50 l k = true) : areaL l i j k = arL l i j k := by
  simp only [fits50, Bool.and_eq_true, inB_iff] at hi hj hk
  have m1 := mul_100 (pX l j - pX l i) (pY l k - pY l i) (by unfold pX; omega) (by unfold pX; omega) (by unfold pY; omega) (by unfold pY; omega)
  have m2 := mul_100 (pY l j - pY l i) (pX l k - pX l i) (by unfold pY; omega) (by unfold pY; omega) (by unfold pX; omega) (by unfold pX; omega)
  unfold areaL areaW
  show wrap64 (arL l i j k) = arL l i j k
  unfold arL
  exact w64 (by omega) (by omega)
def sg (l : PL) (i j k : Int) : Int := if 0 < arL l i j k then 1 else -1
structure Pts (l : PL) : Prop where
  b : pointsB l = true
  len : 3 ≤ l.length ∧ l.length ≤ 7
  fit : ∀ i : Int, 0 ≤ i → i < l.length → fits50 l i = true
  nz : ∀ i j k : Int, 0 ≤ i → i < l.length → 0 ≤ j → j < l.length → 0 ≤ k → k < l.length → i ≠ j → j ≠ k → i ≠ k → arL l i j k ≠ 0
theorem arL_s1 (l : PL) (i j k : Int) : arL l j i k = -arL l i j k := by unfold arL; grind
theorem arL_s2 (l : PL) (i j k : Int) : arL l i k j = -arL l i j k := by unfold arL; grind
theorem Pts.of {l : PL} (h : pointsB l = true) : Pts l := by
  obtain ⟨hl, hf, ha⟩ := (pointsB_iff l).1 h
  have asc : ∀ i j k : Int, 0 ≤ i → i < j → j < k → k < l.length → arL l i j k ≠ 0 := fun i j k h0 h1 h2 h3 => by
    rw [← areaL_ar l i j k (hf i h0 (by omega)) (hf j (by omega) (by omega)) (hf k (by omega) h3)]
    exact ha i j k h0 h1 h2 h3
  refine ⟨h, hl, hf, fun i j k hi hi' hj hj' hk hk' hij hjk hik => ?_⟩
  by_cases h1 : i < j
  · by_cases h2 : j < k
    · exact asc i j k hi h1 h2 hk'
    · have e := arL_s2 l i j k
      by_cases h3 : i < k
      · have := asc i k j hi h3 (by omega) hj'; omega
      · have := asc k i j hk (by omega) h1 hj'; have e2 := arL_s1 l i k j; omega
  · have e := arL_s1 l i j k
    by_cases h2 : i < k
    · have := asc j i k hj (by omega) h2 hk'; omega
    · have e2 := arL_s2 l j i k
      by_cases h3 : j < k
      · have := asc j k i hj h3 (by omega) hi'; omega
      · have := asc k j i hk (by omega) (by omega) hi'; have e3 := arL_s1 l j k i; omega
theorem Pts.chi {l : PL} (h : Pts l) : Chi (l.length : Int) (sg l) := by
  refine ⟨by have := h.len; omega, ?_, ?_, fun i j k _ _ _ _ _ _ _ _ _ => by unfold sg; split <;> simp⟩
  · intro i j k hi hi' hj hj' hk hk' hij hjk hik
    have := h.nz i j k hi hi' hj hj' hk hk' hij hjk hik
    have e := arL_s1 l i j k
    unfold sg
    by_cases z : 0 < arL l i j k
    · rw [if_pos z, if_neg (by omega)]
    · rw [if_neg z, if_pos (by omega)]; rfl
  · intro i j k hi hi' hj hj' hk hk' hij hjk hik
    have := h.nz i j k hi hi' hj hj' hk hk' hij hjk hik
    have e := arL_s2 l i j k
    unfold sg
    by_cases z : 0 < arL l i j k
    · rw [if_pos z, if_neg (by omega)]
    · rw [if_neg z, if_pos (by omega)]; rfl
/-! ### the text -/
def sgC (X : Int → Int → Int → Int) (t : Int × Int × Int) : Int := if X t.1 t.2.1 t.2.2 > 0 then 43 else 45
def sgText (n : Nat) (X : Int → Int → Int → Int) : ByteArray := strOfNums ((trips n).map (sgC X))
theorem trips_small (n : Nat) (h : n ≤ 7) : (trips n).length ≤ 35 := by
  have z : n = 0 ∨ n = 1 ∨ n = 2 ∨ n = 3 ∨ n = 4 ∨ n = 5 ∨ n = 6 ∨ n = 7 := by omega
  rcases z with rfl | rfl | rfl | rfl | rfl | rfl | rfl | rfl <;> decide +kernel
theorem str_push (s : List Int) (v : Int) : strOfNums (s ++ [v]) = strOfNums s ++ strOfNums [v] := by
  unfold strOfNums
  rw [ByteArray.mk_append_mk]
  simp
theorem spec_SignsOf_ev (l : PL) (h : Pts l) : Ev (fun k => spec_SignsOf.f k l) ((l.length : Int), sgText l.length (sg l), true) := by
  have hl := h.len
  refine Ev.bind (by have := spec_ArePoints_ev l (by omega); rw [h.b] at this; exact this) (Ev.iteT rfl ?_)
  have hlen := trips_small l.length (by omega)
  refine tripLoopT (σ := List Int) (l0 := fun q s i => spec_SignsOf.l0 q l i (l.length : Int) (strOfNums s)) (l1 := fun q s i j => spec_SignsOf.l1 q l i j (l.length : Int) (strOfNums s)) (l2 := fun q s i j k => spec_SignsOf.l2 q l i j k (l.length : Int) (strOfNums s)) l.length (pushT_mono fun t => some (sgC (sg l) t)) (C := fun s r => r = ((l.length : Int), strOfNums s, true)) ?_ ?_ ?_ ?_ ?_ ?_ [] _ (pushT_fold _ _ _ [] _ (by simp; omega) ?_)
  · intro s i j k hi hij hjk hk r hT
    obtain ⟨hs, hT⟩ := pushT_some hT rfl
    refine Ev.step (f := fun q => spec_SignsOf.l2 q l i j (k + 1) (l.length : Int) (strOfNums (s ++ [sgC (sg l) (i, j, k)]))) (fun q => ?_) hT
    simp only [spec_SignsOf.l2]
    have hb : spec_l3Byte.f (areaL l i j k) = some (strOfNums [sgC (sg l) (i, j, k)]) := by
      rw [areaL_ar l i j k (h.fit i hi (by omega)) (h.fit j (by omega) (by omega)) (h.fit k (by omega) hk)]
      unfold spec_l3Byte.f sgC sg
      by_cases z : 0 < arL l i j k
      · rw [if_pos z, if_pos z]; rfl
      · rw [if_neg z, if_neg z]; rfl
    rw [if_pos (by omega), if_pos hi, if_pos (by omega), if_pos (by omega), if_pos (by omega), if_pos (by omega), l2Area_L]
    simp only [Option.bind_some, hb]
    rw [if_pos (by rw [strOfNums_size, strOfNums_size]; simp; omega), w64 (by omega) (by omega), str_push]
  · intro s i j hi hij hj r hC
    refine Ev.step (f := fun q => spec_SignsOf.l1 q l i (j + 1) (l.length : Int) (strOfNums s)) (fun q => ?_) hC
    simp only [spec_SignsOf.l2]
    rw [if_neg (by omega), w64 (by omega) (by omega)]
  · intro s i j hi hij hj r hC
    refine Ev.step (f := fun q => spec_SignsOf.l2 q l i j (j + 1) (l.length : Int) (strOfNums s)) (fun q => ?_) hC
    simp only [spec_SignsOf.l1]
    rw [if_pos (by omega), w64 (by omega) (by omega)]
  · intro s i hi hi' r hC
    refine Ev.step (f := fun q => spec_SignsOf.l0 q l (i + 1) (l.length : Int) (strOfNums s)) (fun q => ?_) hC
    simp only [spec_SignsOf.l1]
    rw [if_neg (by omega), w64 (by omega) (by omega)]
  · intro s i hi hi' r hC
    refine Ev.step (f := fun q => spec_SignsOf.l1 q l i (i + 1) (l.length : Int) (strOfNums s)) (fun q => ?_) hC
    simp only [spec_SignsOf.l0]
    rw [if_pos (by omega), w64 (by omega) (by omega)]
  · intro s r hC
    subst hC
    refine Ev.step (f := fun q => some ((l.length : Int), strOfNums s, true)) (fun q => ?_) (Ev.now _)
    simp only [spec_SignsOf.l0]
    rw [if_neg (by omega)]
  · show _ = ((l.length : Int), strOfNums ([] ++ List.filterMap (some ∘ sgC (sg l)) (trips l.length)), true)
    rw [List.filterMap_eq_map, List.nil_append]
    rfl
/-! ### the program's side -/
theorem turnP_sg (l : PL) (h : Pts l) (t : S65) (h0 : 0 ≤ t.f0) (h1 : t.f0 < t.f1) (h2 : t.f1 < t.f2) (h3 : t.f2 < l.length) : turnP l t = some (sg l t.f0 t.f1 t.f2) := by
  have f0 := h.fit t.f0 h0 (by omega)
  have f1 := h.fit t.f1 (by omega) (by omega)
  have f2 := h.fit t.f2 (by omega) (by omega)
  unfold turnP
  rw [TurnOf_in l t.f0 t.f1 t.f2 f0 f1 f2, areaL_ar l _ _ _ f0 f1 f2]
  have := h.nz t.f0 t.f1 t.f2 h0 (by omega) (by omega) (by omega) (by omega) h3 (by omega) (by omega) (by omega)
  unfold sgn sg
  by_cases z : 0 < arL l t.f0 t.f1 t.f2
  · rw [if_pos z, if_pos z]
  · rw [if_neg z, if_neg z, if_pos (by omega)]
theorem chiList_asc {n : Nat} (hn : 3 ≤ n ∧ n ≤ 7) {t : S65} (ht : t ∈ chiList (n : Int)) : 0 ≤ t.f0 ∧ t.f0 < t.f1 ∧ t.f1 < t.f2 ∧ t.f2 < n := by
  rw [chiList_trips n hn] at ht
  obtain ⟨⟨a, b, c⟩, hm, rfl⟩ := List.mem_map.1 ht
  exact trips_mem.1 hm
theorem foldl_congr_mem {α β : Type} {f g : β → α → β} (L : List α) : ∀ b, (∀ b, ∀ a ∈ L, f b a = g b a) → L.foldl f b = L.foldl g b := by
  induction L with
  | nil => intro b _; rfl
  | cons a L ih =>
    intro b h
    rw [List.foldl_cons, List.foldl_cons, h b a (List.mem_cons_self ..)]
    exact ih _ fun b a ha => h b a (List.mem_cons_of_mem _ ha)
/-- The table of the points' signs. -/
def tabX (n : Nat) (X : Int → Int → Int → Int) : Nat → Int := (chiList (n : Int)).foldl (setX X) fun _ => 0
theorem turnTab_X (l : PL) (h : Pts l) : turnTab l (chiList (l.length : Int)) = tabX l.length (sg l) := by
  unfold turnTab tabX
  refine foldl_congr_mem _ _ fun T t ht => ?_
  obtain ⟨h0, h1, h2, h3⟩ := chiList_asc h.len ht
  unfold turnStep setX
  rw [turnP_sg l h t h0 h1 h2 h3]
  rfl
theorem impl_SignsOf_ev (l : PL) (h : Pts l) : Ev (fun k => impl_SignsOf.f k l) ((l.length : Int), sgText l.length (sg l), true) := by
  have hl := h.len
  refine Ev.bind (by have := impl_ArePoints_ev l (by omega); rw [h.b] at this; exact this) (Ev.iteT rfl (Ev.const ?_))
  rw [if_pos ⟨by omega, fun t ht => by obtain ⟨h0, h1, h2, h3⟩ := chiList_asc hl ht; rw [turnP_sg l h t h0 h1 h2 h3]; rfl⟩, turnTab_X l h]
  have e : (chiList (l.length : Int)).map (sgnB (tabX l.length (sg l))) = (trips l.length).map (sgC (sg l)) := by
    conv => lhs; arg 2; rw [chiList_trips _ hl]
    rw [List.map_map]
    refine List.map_congr_left fun t ht => ?_
    obtain ⟨a, b, c⟩ := t
    obtain ⟨h0, h1, h2, h3⟩ := trips_mem.1 ht
    show (if tabX l.length (sg l) (tix a b c) > 0 then (43 : Int) else 45) = if sg l a b c > 0 then 43 else 45
    have := table_at hl h.chi (fun _ => 0) a b c ⟨h0, by omega⟩ ⟨by omega, by omega⟩ ⟨by omega, h3⟩ (by omega) (by omega) (by omega)
    rw [show tabX l.length (sg l) (tix a b c) = sg l a b c from this]
  rw [e]
  rfl
theorem zip_fold {α β : Type} (g : β → α × Nat → β) (f : β → α → β) (L : List α) : ∀ (m : Nat) (b : β), (∀ (b : β) (i : Nat) (h : i < L.length), g b (L[i], m + i) = f b L[i]) → (L.zipIdx m).foldl g b = L.foldl f b := by
  induction L with
  | nil => intro m b _; rfl
  | cons a L ih =>
    intro m b h
    rw [List.zipIdx_cons, List.foldl_cons, List.foldl_cons, show g b (a, m) = f b a from h b 0 (by simp)]
    refine ih (m + 1) _ fun b i hi => ?_
    have := h b (i + 1) (by simp; omega)
    simpa [Nat.add_assoc, Nat.add_comm 1 i] using this
theorem tabOf_X {n : Nat} (hn : 3 ≤ n ∧ n ≤ 7) {X : Int → Int → Int → Int} (hX : Chi (n : Int) X) : tabOf (sgText n X) (chiList (n : Int)) = tabX n X := by
  unfold tabOf tabX
  refine zip_fold _ _ _ 0 _ fun T i hi => ?_
  have hm := chiList_asc hn (List.getElem_mem hi)
  unfold tabStep setX
  simp only [Nat.zero_add]
  have hlen : (chiList (n : Int)).length = (trips n).length := by rw [chiList_trips n hn, List.length_map]
  have hb : bt (sgText n X) (i : Int) = if X (chiList (n : Int))[i].f0 (chiList (n : Int))[i].f1 (chiList (n : Int))[i].f2 > 0 then 43 else 45 := by
    unfold sgText
    rw [strOfNums_bt _ (fun x hx => by obtain ⟨t, _, rfl⟩ := List.mem_map.1 hx; unfold sgC; split <;> omega) _ (by omega) (by rw [List.length_map]; omega)]
    have hi' : i < (trips n).length := by omega
    have e : (chiList (n : Int))[i] = mk3 (trips n)[i] := by simp only [chiList_trips n hn, List.getElem_map]
    rw [e, List.getD_eq_getElem?_getD, Int.toNat_natCast, List.getElem?_eq_getElem (by rw [List.length_map]; omega)]
    simp only [Option.getD_some, List.getElem_map]
    rfl
  rw [hb]
  have hp := hX.pm (chiList (n : Int))[i].f0 (chiList (n : Int))[i].f1 (chiList (n : Int))[i].f2 hm.1 (by omega) (by omega) (by omega) (by omega) hm.2.2.2 (by omega) (by omega) (by omega)
  rcases hp with e | e <;> rw [e] <;> rfl
theorem impl_tableOf_eq {n : Nat} (hn : 3 ≤ n ∧ n ≤ 7) {X : Int → Int → Int → Int} (hX : Chi (n : Int) X) : impl_tableOf.f (n : Int) (sgText n X) = some ((n : Int), tabX n X) := by
  unfold impl_tableOf.f
  rw [if_pos ⟨by omega, by rw [chiList_trips n hn]; simp [sgText, strOfNums_size]⟩, tabOf_X hn hX]
end Go.Proofs.Ytijgjpfbhbggdaa.Pure

namespace Go.Proofs.Ytijgjpfbhbggdaa.Pure
open Go.RowKit Go.Proofs.Ytijgjpfbhbggdaa.P Go.Proofs.YtijgjpfbhbggdaaW.PrintWords Go.Proofs.YtijgjpfbhbggdaaW.PrintLast Go.Proofs.Ytijgjpfbhbggdaa.Com
set_option linter.unusedSimpArgs false
set_option linter.unusedVariables false
set_option maxRecDepth 100000

def orM (L : List Int) : Int := L.foldl (fun m x => Go.bits .or .i64 m (shl .i64 1 x)) 0
def addM (L : List Int) : Int := L.foldl (fun m x => wrap64 (m + shl .i64 1 (IntKind.u64.wrap x))) 0
def i7 (a : Fin 7) : Int := ((a.1 : Nat) : Int)
theorem i7_of {a : Int} (h : in7 a) : ∃ f : Fin 7, a = i7 f := ⟨⟨a.toNat, by unfold in7 at h; omega⟩, by unfold in7 at h; show a = ((a.toNat : Nat) : Int); omega⟩
theorem single_0 : impl_single.f 9 (orM []) = some (-1) := by decide +kernel
theorem single_1 : ∀ a : Fin 7, impl_single.f 9 (orM [i7 a]) = some (i7 a) := by decide +kernel
theorem single_2 : ∀ a b : Fin 7, a ≠ b → impl_single.f 9 (orM [i7 a, i7 b]) = some (-1) := by decide +kernel
theorem single_3 : ∀ a b c : Fin 7, a ≠ b → a ≠ c → b ≠ c → impl_single.f 9 (orM [i7 a, i7 b, i7 c]) = some (-1) := by decide +kernel
theorem single_4 : ∀ a b c d : Fin 7, a ≠ b → a ≠ c → b ≠ c → a ≠ d → b ≠ d → c ≠ d → impl_single.f 9 (orM [i7 a, i7 b, i7 c, i7 d]) = some (-1) := by decide +kernel
theorem only_0 : spec_l5Only.f 9 (addM []) = some (-1) := by decide +kernel
theorem only_1 : ∀ a : Fin 7, spec_l5Only.f 9 (addM [i7 a]) = some (i7 a) := by decide +kernel
theorem only_2 : ∀ a b : Fin 7, a ≠ b → spec_l5Only.f 9 (addM [i7 a, i7 b]) = some (-1) := by decide +kernel
theorem only_3 : ∀ a b c : Fin 7, a ≠ b → a ≠ c → b ≠ c → spec_l5Only.f 9 (addM [i7 a, i7 b, i7 c]) = some (-1) := by decide +kernel
theorem only_4 : ∀ a b c d : Fin 7, a ≠ b → a ≠ c → b ≠ c → a ≠ d → b ≠ d → c ≠ d → spec_l5Only.f 9 (addM [i7 a, i7 b, i7 c, i7 d]) = some (-1) := by decide +kernel
def fullM (n : Nat) : Int := 2 ^ n - 1
theorem full_impl : ∀ n : Fin 8, impl_fullSet.f (n.1 : Int) = some (fullM n.1) := by decide +kernel
theorem full_spec : ∀ n : Fin 8, 0 ≤ IntKind.u64.wrap (n.1 : Int) ∧ wrap64 ((shl .i64 1 (IntKind.u64.wrap (n.1 : Int))) - 1) = fullM n.1 := by decide +kernel
theorem full_bit : ∀ n : Fin 8, ∀ i : Fin 7, i.1 < n.1 → Go.bits .and .i64 (shr .i64 (fullM n.1) (i7 i)) 1 = 1 := by decide +kernel
theorem full_has : ∀ n : Fin 8, ∀ i : Fin 7, i.1 < n.1 → spec_l6Has.f (fullM n.1) (i7 i) = some true := by decide +kernel
def m3 (a b c : Int) : Int := Go.bits .or .i64 (Go.bits .or .i64 (shl .i64 1 a) (shl .i64 1 b)) (shl .i64 1 c)
theorem full_less : ∀ n : Fin 8, ∀ p a b c : Fin 7, a.1 < b.1 → b.1 < c.1 → c.1 < n.1 → p.1 < n.1 → (Go.bits .and .i64 (Go.bits .andNot .i64 (fullM n.1) (shl .i64 1 (i7 p))) (m3 (i7 a) (i7 b) (i7 c)) = m3 (i7 a) (i7 b) (i7 c) ↔ p ≠ a ∧ p ≠ b ∧ p ≠ c) := by decide +kernel
/-- The elements that are not marked, as numbers and as a list. -/
def orL : List Bool → Int → Int → Int
  | [], _, m => m
  | b :: bs, i, m => orL bs (i + 1) (if b = true then m else Go.bits .or .i64 m (shl .i64 1 i))
def addL : List Bool → Int → Int → Int
  | [], _, m => m
  | b :: bs, i, m => addL bs (i + 1) (if b = true then m else wrap64 (m + shl .i64 1 (IntKind.u64.wrap i)))
def offL : List Bool → Int → List Int
  | [], _ => []
  | b :: bs, i => if b = true then offL bs (i + 1) else i :: offL bs (i + 1)
theorem elements_7 : ∀ a b c d e f g : Bool, impl_elementsOf.f 70 (orL [a, b, c, d, e, f, g] 0 0) = some (offL [a, b, c, d, e, f, g] 0) := by decide +kernel
theorem has_7 : ∀ a b c d e f g : Bool, ∀ k : Fin 7, spec_l6Has.f (addL [a, b, c, d, e, f, g] 0 0) (i7 k) = some (!([a, b, c, d, e, f, g].getD k.1 true)) := by decide +kernel
def pad (L : List Bool) : List Bool := L ++ List.replicate (7 - L.length) true
theorem orL_true (m : Nat) : ∀ (i x : Int), orL (List.replicate m true) i x = x := by
  induction m with
  | zero => intro i x; rfl
  | succ m ih => intro i x; exact ih _ _
theorem addL_true (m : Nat) : ∀ (i x : Int), addL (List.replicate m true) i x = x := by
  induction m with
  | zero => intro i x; rfl
  | succ m ih => intro i x; exact ih _ _
theorem offL_true (m : Nat) : ∀ (i : Int), offL (List.replicate m true) i = [] := by
  induction m with
  | zero => intro i; rfl
  | succ m ih => intro i; exact ih _
theorem orL_pad (L : List Bool) (m : Nat) : ∀ (i x : Int), orL (L ++ List.replicate m true) i x = orL L i x := by
  induction L with
  | nil => intro i x; exact orL_true m i x
  | cons b L ih => intro i x; exact ih _ _
theorem addL_pad (L : List Bool) (m : Nat) : ∀ (i x : Int), addL (L ++ List.replicate m true) i x = addL L i x := by
  induction L with
  | nil => intro i x; exact addL_true m i x
  | cons b L ih => intro i x; exact ih _ _
theorem offL_pad (L : List Bool) (m : Nat) : ∀ (i : Int), offL (L ++ List.replicate m true) i = offL L i := by
  induction L with
  | nil => intro i; exact offL_true m i
  | cons b L ih =>
    intro i
    show (if b = true then offL (L ++ List.replicate m true) (i + 1) else i :: offL (L ++ List.replicate m true) (i + 1)) = if b = true then offL L (i + 1) else i :: offL L (i + 1)
    rw [ih]
theorem seven {α : Type} (L : List α) (h : L.length = 7) : ∃ a b c d e f g, L = [a, b, c, d, e, f, g] := by
  match L, h with
  | [a, b, c, d, e, f, g], _ => exact ⟨a, b, c, d, e, f, g, rfl⟩
theorem elements_of (L : List Bool) (h : L.length ≤ 7) : impl_elementsOf.f 70 (orL L 0 0) = some (offL L 0) := by
  obtain ⟨a, b, c, d, e, f, g, hp⟩ := seven (pad L) (by unfold pad; simp; omega)
  have h1 := orL_pad L (7 - L.length) 0 0
  have h2 := offL_pad L (7 - L.length) 0
  rw [← h1, ← h2, show L ++ List.replicate (7 - L.length) true = _ from hp]
  exact elements_7 a b c d e f g
theorem has_of (L : List Bool) (h : L.length ≤ 7) (k : Int) (h0 : 0 ≤ k) (hk : k < L.length) : spec_l6Has.f (addL L 0 0) k = some (!(L.getD k.toNat true)) := by
  obtain ⟨a, b, c, d, e, f, g, hp⟩ := seven (pad L) (by unfold pad; simp; omega)
  have h1 := addL_pad L (7 - L.length) 0 0
  obtain ⟨q, rfl⟩ := i7_of (a := k) ⟨h0, by omega⟩
  have e2 : L.getD (i7 q).toNat true = (pad L).getD q.1 true := by
    unfold pad
    rw [List.getD_eq_getElem?_getD, List.getD_eq_getElem?_getD, List.getElem?_append_left (by show q.1 < L.length; unfold i7 at hk; omega)]
    rfl
  rw [← h1, show L ++ List.replicate (7 - L.length) true = _ from hp, e2, hp]
  exact has_7 a b c d e f g q
/-! ### the circuit of four elements -/
def T3 (u v w : Bool) : ByteArray := strOfNums [43, if u = true then 43 else 45, if v = true then 43 else 45, if w = true then 43 else 45]
theorem mem_sg {n : Int} {X : Int → Int → Int → Int} (hX : Chi n X) {i j k : Int} (hi : 0 ≤ i ∧ i < n) (hj : 0 ≤ j ∧ j < n) (hk : 0 ≤ k ∧ k < n) (hij : i ≠ j) (hjk : j ≠ k) (hik : i ≠ k) : X i j k = 1 ∨ X i j k = -1 := hX.pm i j k hi.1 hi.2 hj.1 hj.2 hk.1 hk.2 hij hjk hik
theorem circ_list : ∀ s1 s2 s3 s4 : Int, (s1 = 1 ∨ s1 = -1) → (s2 = 1 ∨ s2 = -1) → (s3 = 1 ∨ s3 = -1) → (s4 = 1 ∨ s4 = -1) → (if s1 > 0 then strOfNums (([s1, wrap64 (-s2), s3, wrap64 (-s4)] : List Int).map circI) else oppText (strOfNums (([s1, wrap64 (-s2), s3, wrap64 (-s4)] : List Int).map circI))) = T3 (decide (s1 ≠ s2)) (decide (s1 = s3)) (decide (s1 ≠ s4)) := by
  rintro s1 s2 s3 s4 (rfl | rfl) (rfl | rfl) (rfl | rfl) (rfl | rfl) <;> kernel_rfl
theorem circT_eq {n : Nat} (hn : 3 ≤ n ∧ n ≤ 7) {X : Int → Int → Int → Int} (hX : Chi (n : Int) X) {p a b c : Int} (hp : 0 ≤ p ∧ p < (n : Int)) (ha : 0 ≤ a ∧ a < (n : Int)) (hb : 0 ≤ b ∧ b < (n : Int)) (hc : 0 ≤ c ∧ c < (n : Int)) (hpa : p ≠ a) (hpb : p ≠ b) (hpc : p ≠ c) (hab : a ≠ b) (hac : a ≠ c) (hbc : b ≠ c) :
    circT (tabX n X) p a b c = T3 (decide (X a b c ≠ X p b c)) (decide (X a b c = X p a c)) (decide (X a b c ≠ X p a b)) := by
  have e1 : tabX n X (tix a b c) = X a b c := table_at hn hX _ a b c ha hb hc hab hbc hac
  have e2 : tabX n X (tix p b c) = X p b c := table_at hn hX _ p b c hp hb hc hpb hbc hpc
  have e3 : tabX n X (tix p a c) = X p a c := table_at hn hX _ p a c hp ha hc hpa hac hpc
  have e4 : tabX n X (tix p a b) = X p a b := table_at hn hX _ p a b hp ha hb hpa hab hpb
  unfold circT circL
  rw [e1, e2, e3, e4]
  exact circ_list _ _ _ _ (mem_sg hX ha hb hc hab hbc hac) (mem_sg hX hp hb hc hpb hbc hpc) (mem_sg hX hp ha hc hpa hac hpc) (mem_sg hX hp ha hb hpa hab hpb)
end Go.Proofs.Ytijgjpfbhbggdaa.Pure

namespace Go.Proofs.Ytijgjpfbhbggdaa.Pure
open Go.RowKit Go.Proofs.Ytijgjpfbhbggdaa.P Go.Proofs.YtijgjpfbhbggdaaW.PrintWords Go.Proofs.YtijgjpfbhbggdaaW.PrintLast Go.Proofs.Ytijgjpfbhbggdaa.Com
set_option linter.unusedSimpArgs false
set_option linter.unusedVariables false
set_option maxRecDepth 100000

/-- p stands alone against a, b, c. -/
def alone (X : Int → Int → Int → Int) (p a b c : Int) : Bool := decide (X a b c = X p b c) && decide (X a b c ≠ X p a c) && decide (X a b c = X p a b)
/-- The four elements by their signs. -/
def plusL (u v w : Bool) (p a b c : Int) : List Int := p :: ((if u = true then [a] else []) ++ (if v = true then [b] else []) ++ (if w = true then [c] else []))
def minusL (u v w : Bool) (p a b c : Int) : List Int := (if u = true then [] else [a]) ++ (if v = true then [] else [b]) ++ (if w = true then [] else [c])
theorem T3_size (u v w : Bool) : (T3 u v w).size = 4 := by unfold T3; rw [strOfNums_size]; rfl
theorem T3_0 : ∀ u v w : Bool, bt (T3 u v w) 0 = 43 := by decide +kernel
theorem T3_1 : ∀ u v w : Bool, (bt (T3 u v w) 1 = 43 ↔ u = true) := by decide +kernel
theorem T3_2 : ∀ u v w : Bool, (bt (T3 u v w) 2 = 43 ↔ v = true) := by decide +kernel
theorem T3_3 : ∀ u v w : Bool, (bt (T3 u v w) 3 = 43 ↔ w = true) := by decide +kernel
theorem split_T3 (u v w : Bool) (p a b c : Int) (hp : 0 ≤ p) (ha : 0 ≤ a) (hb : 0 ≤ b) (hc : 0 ≤ c) (n : Int) (T : Nat → Int) : impl_chi_split.l0 6 (T3 u v w) 0 0 [p, a, b, c] 4 0 n T = some (orM (plusL u v w p a b c), orM (minusL u v w p a b c), n, T) := by
  have w0 : wrap64 1 = 1 := by decide +kernel
  have w1 : wrap64 2 = 2 := by decide +kernel
  have w2 : wrap64 3 = 3 := by decide +kernel
  have w3 : wrap64 4 = 4 := by decide +kernel
  have r0 : rd [p, a, b, c] 0 = p := rfl
  have r1 : rd [p, a, b, c] 1 = a := rfl
  have r2 : rd [p, a, b, c] 2 = b := rfl
  have r3 : rd [p, a, b, c] 3 = c := rfl
  cases u <;> cases v <;> cases w <;> simp [impl_chi_split.l0, T3_size, T3_0, T3_1, T3_2, T3_3, w0, w1, w2, w3, r0, r1, r2, r3, hp, ha, hb, hc, plusL, minusL, orM]
theorem fin_ne {a b : Fin 7} (h : i7 a ≠ i7 b) : a ≠ b := fun e => h (by rw [e])
theorem inside_T3 (u v w : Bool) {p a b c : Int} (hp : in7 p) (ha : in7 a) (hb : in7 b) (hc : in7 c) (hpa : p ≠ a) (hpb : p ≠ b) (hpc : p ≠ c) (hab : a ≠ b) (hac : a ≠ c) (hbc : b ≠ c) :
    ∃ x y, impl_single.f 9 (orM (plusL u v w p a b c)) = some x ∧ impl_single.f 9 (orM (minusL u v w p a b c)) = some y ∧ (mx x y == p) = (!u && !v && !w) := by
  obtain ⟨p, rfl⟩ := i7_of hp
  obtain ⟨a, rfl⟩ := i7_of ha
  obtain ⟨b, rfl⟩ := i7_of hb
  obtain ⟨c, rfl⟩ := i7_of hc
  have pa := fin_ne hpa
  have pb := fin_ne hpb
  have pc := fin_ne hpc
  have ab := fin_ne hab
  have ac := fin_ne hac
  have bc := fin_ne hbc
  have p0 : 0 ≤ i7 p := by unfold i7; omega
  have a0 : 0 ≤ i7 a := by unfold i7; omega
  have b0 : 0 ≤ i7 b := by unfold i7; omega
  have c0 : 0 ≤ i7 c := by unfold i7; omega
  cases u <;> cases v <;> cases w
  · exact ⟨_, _, single_1 p, single_3 a b c ab ac bc, by simp [mx]; omega⟩
  · exact ⟨_, _, single_2 p c pc, single_2 a b ab, by simp [mx]; omega⟩
  · exact ⟨_, _, single_2 p b pb, single_2 a c ac, by simp [mx]; omega⟩
  · exact ⟨_, _, single_3 p b c pb pc bc, single_1 a, by simp [mx]; omega⟩
  · exact ⟨_, _, single_2 p a pa, single_2 b c bc, by simp [mx]; omega⟩
  · exact ⟨_, _, single_3 p a c pa pc ac, single_1 b, by simp [mx]; omega⟩
  · exact ⟨_, _, single_3 p a b pa pb ab, single_1 c, by simp [mx]; omega⟩
  · exact ⟨_, _, single_4 p a b c pa pb ab pc ac bc, single_0, by simp [mx]; omega⟩
theorem alone_eq (X : Int → Int → Int → Int) (p a b c : Int) : (!(decide (X a b c ≠ X p b c)) && !(decide (X a b c = X p a c)) && !(decide (X a b c ≠ X p a b))) = alone X p a b c := by
  unfold alone
  by_cases h1 : X a b c = X p b c <;> by_cases h2 : X a b c = X p a c <;> by_cases h3 : X a b c = X p a b <;> simp [h1, h2, h3]
theorem isInside_ev {n : Nat} (hn : 3 ≤ n ∧ n ≤ 7) {X : Int → Int → Int → Int} (hX : Chi (n : Int) X) {p a b c : Int} (hp : 0 ≤ p ∧ p < (n : Int)) (ha : 0 ≤ a ∧ a < (n : Int)) (hb : 0 ≤ b ∧ b < (n : Int)) (hc : 0 ≤ c ∧ c < (n : Int)) (hpa : p ≠ a) (hpb : p ≠ b) (hpc : p ≠ c) (hab : a ≠ b) (hac : a ≠ c) (hbc : b ≠ c) :
    Ev (fun k => impl_chi_isInside.f k (n : Int) (tabX n X) p a b c) (alone X p a b c, (n : Int), tabX n X) := by
  have ip : in7 p := ⟨by omega, by omega⟩
  have ia : in7 a := ⟨by omega, by omega⟩
  have ib : in7 b := ⟨by omega, by omega⟩
  have ic : in7 c := ⟨by omega, by omega⟩
  obtain ⟨x, y, hx, hy, hxy⟩ := inside_T3 (decide (X a b c ≠ X p b c)) (decide (X a b c = X p a c)) (decide (X a b c ≠ X p a b)) ip ia ib ic hpa hpb hpc hab hac hbc
  rw [alone_eq] at hxy
  have hsp : impl_chi_split.f 6 (n : Int) (tabX n X) p a b c = some (orM (plusL (decide (X a b c ≠ X p b c)) (decide (X a b c = X p a c)) (decide (X a b c ≠ X p a b)) p a b c), orM (minusL (decide (X a b c ≠ X p b c)) (decide (X a b c = X p a c)) (decide (X a b c ≠ X p a b)) p a b c), (n : Int), tabX n X) := by
    unfold impl_chi_split.f impl_chi_circuit.f
    rw [if_pos ⟨ip, ia, ib, ic⟩, circT_eq hn hX hp ha hb hc hpa hpb hpc hab hac hbc]
    exact split_T3 _ _ _ p a b c hp.1 ha.1 hb.1 hc.1 _ _
  have h9 : impl_chi_isInside.f 9 (n : Int) (tabX n X) p a b c = some (alone X p a b c, (n : Int), tabX n X) := by
    unfold impl_chi_isInside.f impl_chi_inner.f
    have up := impl_chi_split.mono (n : Int) (tabX n X) p a b c
    rw [up 8 _ (up 7 _ (up 6 _ hsp))]
    simp only [Option.bind_some]
    rw [hx, hy]
    simp only [Option.bind_some, hxy]
  exact Ev.of (fun k => impl_chi_isInside.mono _ _ _ _ _ _ k) h9
end Go.Proofs.Ytijgjpfbhbggdaa.Pure

namespace Go.Proofs.Ytijgjpfbhbggdaa.Pure
open Go.RowKit Go.Proofs.Ytijgjpfbhbggdaa.P Go.Proofs.YtijgjpfbhbggdaaW.PrintWords Go.Proofs.YtijgjpfbhbggdaaW.PrintLast Go.Proofs.Ytijgjpfbhbggdaa.Com
set_option linter.unusedSimpArgs false
set_option linter.unusedVariables false
set_option maxRecDepth 100000

def inAt (X : Int → Int → Int → Int) (p : Int) (t : Int × Int × Int) : Bool := (decide (p ≠ t.1) && decide (p ≠ t.2.1) && decide (p ≠ t.2.2)) && alone X p t.1 t.2.1 t.2.2
/-- p lies in a triangle of the others. -/
def inH (n : Nat) (X : Int → Int → Int → Int) (p : Int) : Bool := (trips n).any (inAt X p)
theorem foldX_any {τ ρ : Type} (p : τ → Bool) (r1 r0 : ρ) (L : List τ) : foldX (σ := Unit) (fun _ t => if p t = true then .inr r1 else .inl ()) (fun _ => r0) L () = if L.any p = true then r1 else r0 := by
  induction L with
  | nil => rfl
  | cons t L ih =>
    unfold foldX
    by_cases h : p t = true
    · simp [h]
    · simp only [h, List.any_cons, Bool.false_or, if_false, Bool.false_eq_true]; exact ih
theorem less_iff {n : Nat} (hn : 3 ≤ n ∧ n ≤ 7) {p a b c : Int} (hp : 0 ≤ p ∧ p < (n : Int)) (ha : 0 ≤ a) (hab : a < b) (hbc : b < c) (hc : c < (n : Int)) : (Go.bits .and .i64 (Go.bits .andNot .i64 (fullM n) (shl .i64 1 p)) (m3 a b c) = m3 a b c) ↔ (p ≠ a ∧ p ≠ b ∧ p ≠ c) := by
  obtain ⟨p, rfl⟩ := i7_of (a := p) ⟨hp.1, by omega⟩
  obtain ⟨a, rfl⟩ := i7_of (a := a) ⟨ha, by omega⟩
  obtain ⟨b, rfl⟩ := i7_of (a := b) ⟨by omega, by omega⟩
  obtain ⟨c, rfl⟩ := i7_of (a := c) ⟨by omega, by omega⟩
  have h := full_less ⟨n, by omega⟩ p a b c (by unfold i7 at hab; omega) (by unfold i7 at hbc; omega) (by unfold i7 at hc; show c.1 < n; omega) (by have := hp.2; unfold i7 at this; show p.1 < n; omega)
  rw [show fullM n = fullM (⟨n, by omega⟩ : Fin 8).1 from rfl, h]
  have e : ∀ x y : Fin 7, x ≠ y ↔ i7 x ≠ i7 y := fun x y => ⟨fun h hh => h (by apply Fin.ext; unfold i7 at hh; omega), fun h hh => h (by rw [hh])⟩
  rw [e, e, e]
theorem inHull_ev {n : Nat} (hn : 3 ≤ n ∧ n ≤ 7) {X : Int → Int → Int → Int} (hX : Chi (n : Int) X) {p : Int} (hp : 0 ≤ p ∧ p < (n : Int)) :
    Ev (fun k => impl_chi_inHull.f k (n : Int) (tabX n X) (Go.bits .andNot .i64 (fullM n) (shl .i64 1 p)) p) (inH n X p, (n : Int), tabX n X) := by
  refine Ev.bind (triples_eq n (by omega)) ?_
  have hlen := trips_small n (by omega)
  have hlen' : (((trips n).map mk3).length : Int) = ((trips n).length : Int) := by rw [List.length_map]
  have hf := foldX_any (inAt X p) (true, (n : Int), tabX n X) (false, (n : Int), tabX n X) (trips n)
  have hv : (if (trips n).any (inAt X p) = true then (true, (n : Int), tabX n X) else (false, (n : Int), tabX n X)) = (inH n X p, (n : Int), tabX n X) := by
    unfold inH
    cases (trips n).any (inAt X p) <;> rfl
  rw [hv] at hf
  rw [← hf]
  refine Ev.congr (fun k => ?_) (foldLoop (σ := Unit) (l0 := fun k _ i => impl_chi_inHull.l0 k (Go.bits .andNot .i64 (fullM n) (shl .i64 1 p)) p ((trips n).map mk3) ((trips n).length : Int) i (n : Int) (tabX n X)) (trips n) (0, 0, 0) _ _ ?_ ?_ ())
  · show _ = impl_chi_inHull.l0 k _ p _ _ 0 _ _
    rw [hlen']
  · intro _ i h0 h1 hm r hT
    obtain ⟨t, ht⟩ : ∃ t, (trips n).getD i.toNat (0, 0, 0) = t := ⟨_, rfl⟩
    obtain ⟨a, b, c⟩ := t
    rw [ht] at hm hT
    obtain ⟨ha, hab, hbc, hc⟩ := trips_mem.1 hm
    have hr : rd_T65 ((trips n).map mk3) i = mk3 (a, b, c) := by
      unfold rd_T65
      rw [getD_map mk3 _ _ (0, 0, 0) _ (by omega), ht]
    refine Ev.step (f := fun q => if p ≠ a ∧ p ≠ b ∧ p ≠ c then ((impl_chi_isInside.f q (n : Int) (tabX n X) p a b c).bind fun bt106 => (if bt106.1 = true then (some (true, bt106.2.1, bt106.2.2)) else (impl_chi_inHull.l0 q (Go.bits .andNot .i64 (fullM n) (shl .i64 1 p)) p ((trips n).map mk3) ((trips n).length : Int) (i + 1) bt106.2.1 bt106.2.2))) else impl_chi_inHull.l0 q (Go.bits .andNot .i64 (fullM n) (shl .i64 1 p)) p ((trips n).map mk3) ((trips n).length : Int) (i + 1) (n : Int) (tabX n X)) (fun q => ?_) ?_
    · simp only [impl_chi_inHull.l0]
      rw [hr, if_pos h1, if_pos h0, if_pos (by rw [hlen']; exact h1), if_pos (show 0 ≤ (mk3 (a, b, c)).f0 from ha), if_pos (show 0 ≤ (mk3 (a, b, c)).f1 by show 0 ≤ b; omega), if_pos (show 0 ≤ (mk3 (a, b, c)).f2 by show 0 ≤ c; omega), w64 (by omega) (by omega)]
      show (if Go.bits .and .i64 (Go.bits .andNot .i64 (fullM n) (shl .i64 1 p)) (m3 a b c) = m3 a b c then _ else _) = _
      simp only [less_iff hn hp ha hab hbc hc]
      rfl
    · by_cases hd : p ≠ a ∧ p ≠ b ∧ p ≠ c
      · refine Ev.iteT hd (Ev.bind (isInside_ev hn hX hp ⟨ha, by omega⟩ ⟨by omega, by omega⟩ ⟨by omega, hc⟩ hd.1 hd.2.1 hd.2.2 (by omega) (by omega) (by omega)) ?_)
        have e : inAt X p (a, b, c) = alone X p a b c := by unfold inAt; simp [hd.1, hd.2.1, hd.2.2]
        cases hal : alone X p a b c with
        | true =>
          have : r = (true, (n : Int), tabX n X) := stepT_inr hT (by rw [e, hal]; rfl)
          subst this
          exact Ev.iteT rfl (Ev.now _)
        | false =>
          refine Ev.iteF (by simp) ?_
          have hC := stepT_inl (s' := ()) hT (by rw [e, hal]; rfl)
          exact hC
      · refine Ev.iteF hd ?_
        have hne : ¬ inAt X p (a, b, c) = true := by
          unfold inAt
          simp only [Bool.and_eq_true, decide_eq_true_eq]
          rintro ⟨⟨⟨x, y⟩, z⟩, _⟩
          exact hd ⟨x, y, z⟩
        have hC := stepT_inl (s' := ()) hT (if_neg hne)
        exact hC
  · intro _
    refine Ev.step (f := fun q => some (false, (n : Int), tabX n X)) (fun q => ?_) (Ev.now _)
    simp only [impl_chi_inHull.l0]
    rw [if_neg (by omega)]
theorem orL_ints (f : Int → Bool) (d : Nat) : ∀ (a m : Int), (ints a d).foldl (fun out i => if f i = true then out else Go.bits .or .i64 out (shl .i64 1 i)) m = orL ((ints a d).map f) a m := by
  induction d with
  | zero => intro a m; rfl
  | succ d ih => intro a m; exact ih (a + 1) _
theorem extremeIn_ev {n : Nat} (hn : 3 ≤ n ∧ n ≤ 7) {X : Int → Int → Int → Int} (hX : Chi (n : Int) X) :
    Ev (fun k => impl_chi_extremeIn.f k (n : Int) (tabX n X) (fullM n)) (orL ((ints 0 n).map (inH n X)) 0 0, (n : Int), tabX n X) := by
  rw [← orL_ints]
  have hf := foldX_foldl (fun out i => if inH n X i = true then out else Go.bits .or .i64 out (shl .i64 1 i)) (fun s : Int => (s, (n : Int), tabX n X)) (ints 0 n) 0
  rw [← hf]
  refine rangeLoop (σ := Int) (l := fun k s i => impl_chi_extremeIn.l0 k (fullM n) s i (n : Int) (tabX n X)) (n : Int) (stepT_mono _) (C := fun s r => r = (s, (n : Int), tabX n X)) 0 ?_ ?_ n 0 (by omega) (by omega) 0 _ (foldX_T (fun s t => Sum.inl (if inH n X t = true then s else Go.bits .or .i64 s (shl .i64 1 t))) (fun s : Int => (s, (n : Int), tabX n X)) (C := fun s r => r = (s, (n : Int), tabX n X)) (fun _ => rfl) (ints 0 n) 0)
  · intro s i h0 h1 r hT
    have hbit : Go.bits .and .i64 (shr .i64 (fullM n) i) 1 = 1 := by
      obtain ⟨q, rfl⟩ := i7_of (a := i) ⟨h0, by omega⟩
      exact full_bit ⟨n, by omega⟩ q (by show q.1 < n; unfold i7 at h1; omega)
    have hC := stepT_inl hT rfl
    refine Ev.step (f := fun q => (impl_chi_inHull.f q (n : Int) (tabX n X) (Go.bits .andNot .i64 (fullM n) (shl .i64 1 i)) i).bind fun bt101 => (if bt101.1 = true then (impl_chi_extremeIn.l0 q (fullM n) s (i + 1) bt101.2.1 bt101.2.2) else (impl_chi_extremeIn.l0 q (fullM n) (Go.bits .or .i64 s (shl .i64 1 i)) (i + 1) bt101.2.1 bt101.2.2))) (fun q => ?_) (Ev.bind (inHull_ev hn hX ⟨h0, h1⟩) ?_)
    · simp only [impl_chi_extremeIn.l0]
      rw [if_pos h1, if_pos h0, if_pos hbit, w64 (by omega) (by omega)]
    · cases hi : inH n X i with
      | true => rw [hi] at hC; exact Ev.iteT rfl hC
      | false => rw [hi] at hC; exact Ev.iteF (by simp) hC
  · intro s r hC
    subst hC
    refine Ev.step (f := fun q => some (s, (n : Int), tabX n X)) (fun q => ?_) (Ev.now _)
    simp only [impl_chi_extremeIn.l0]
    rw [if_neg (by omega)]
end Go.Proofs.Ytijgjpfbhbggdaa.Pure

namespace Go.Proofs.Ytijgjpfbhbggdaa.Pure
open Go.RowKit Go.Proofs.Ytijgjpfbhbggdaa.P Go.Proofs.YtijgjpfbhbggdaaW.PrintWords Go.Proofs.YtijgjpfbhbggdaaW.PrintLast Go.Proofs.Ytijgjpfbhbggdaa.Com
set_option linter.unusedSimpArgs false
set_option linter.unusedVariables false
set_option maxRecDepth 100000

def ixOk (n : Nat) (t : Int × Int × Int) : Bool := match spec_l3Index.f 20 (n : Int) t.1 t.2.1 t.2.2 with
  | some x => decide (0 ≤ x) && (decide (x.toNat < (trips n).length) && ((trips n).getD x.toNat (0, 0, 0) == t))
  | none => false
theorem ix_all : ∀ n : Fin 8, (trips n.1).all (ixOk n.1) = true := by decide +kernel
theorem ix_of {n : Nat} (hn : n ≤ 7) {a b c : Int} (h0 : 0 ≤ a) (h1 : a < b) (h2 : b < c) (h3 : c < (n : Int)) : ∃ x : Int, spec_l3Index.f 20 (n : Int) a b c = some x ∧ 0 ≤ x ∧ x.toNat < (trips n).length ∧ (trips n).getD x.toNat (0, 0, 0) = (a, b, c) := by
  have h := List.all_eq_true.1 (ix_all ⟨n, by omega⟩) (a, b, c) (trips_mem.2 ⟨h0, h1, h2, h3⟩)
  unfold ixOk at h
  simp only at h
  cases e : spec_l3Index.f 20 (n : Int) a b c with
  | none => rw [e] at h; cases h
  | some x =>
    rw [e] at h
    simp only [Bool.and_eq_true, decide_eq_true_eq, beq_iff_eq] at h
    exact ⟨x, rfl, h.1, h.2.1, h.2.2⟩
theorem sgText_size (n : Nat) (X : Int → Int → Int → Int) : (sgText n X).size = (trips n).length := by unfold sgText; rw [strOfNums_size, List.length_map]
theorem sgText_at {n : Nat} (X : Int → Int → Int → Int) {x : Int} (h0 : 0 ≤ x) (h1 : x.toNat < (trips n).length) : bt (sgText n X) x = sgC X ((trips n).getD x.toNat (0, 0, 0)) := by
  unfold sgText
  rw [strOfNums_bt _ (fun x hx => by obtain ⟨t, _, rfl⟩ := List.mem_map.1 hx; unfold sgC; split <;> omega) _ h0 (by rw [List.length_map]; omega), getD_map (sgC X) _ _ (0, 0, 0) _ h1]
theorem ix_ev {n : Nat} (hn : n ≤ 7) {a b c x : Int} (h : spec_l3Index.f 20 (n : Int) a b c = some x) : Ev (fun q => spec_l3Index.f q (n : Int) a b c) x := Ev.of (fun k => spec_l3Index.mono _ _ _ _ k) h
theorem l3At_j1 {n : Nat} (hn : 3 ≤ n ∧ n ≤ 7) {X : Int → Int → Int → Int} (hX : Chi (n : Int) X) (a b c s : Int) (hs : s = 1 ∨ s = -1) (ha : 0 ≤ a) (hb : 0 ≤ b) (hab : a ≠ b) (hac : a < c) (hbc : b < c) (hc : c < (n : Int)) : Ev (fun q => spec_l3At.j1 q a b c s (n : Int) (sgText n X)) (s * X a b c) := by
  have pm := hX.pm a b c ha (by omega) hb (by omega) (by omega) hc hab (by omega) (by omega)
  have e1 := hX.s1 a b c ha (by omega) hb (by omega) (by omega) hc hab (by omega) (by omega)
  by_cases h : a > b
  · obtain ⟨x, hx, h0, h1, h2⟩ := ix_of (n := n) (by omega) hb h (by omega) hc
    have hb' := sgText_at X h0 h1
    rw [h2] at hb'
    refine Ev.step (f := fun q => (spec_l3Index.f q (n : Int) b a c).bind fun t102 => (if 0 ≤ t102 then (if t102 < ((sgText n X).size : Int) then (if (bt (sgText n X) t102) = 45 then (some (wrap64 (-(wrap64 (-s))))) else (some (wrap64 (-s)))) else (none)) else (none))) (fun q => by simp only [spec_l3At.j1]; rw [if_pos h]) (Ev.bind (ix_ev (by omega) hx) (Ev.const ?_))
    rw [if_pos h0, if_pos (by rw [sgText_size]; omega), hb']
    unfold sgC
    simp only
    rcases pm with e | e <;> rcases hs with rfl | rfl <;> rw [e1, e] <;> decide +kernel
  · obtain ⟨x, hx, h0, h1, h2⟩ := ix_of (n := n) (by omega) ha (show a < b by omega) hbc hc
    have hb' := sgText_at X h0 h1
    rw [h2] at hb'
    refine Ev.step (f := fun q => (spec_l3Index.f q (n : Int) a b c).bind fun t103 => (if 0 ≤ t103 then (if t103 < ((sgText n X).size : Int) then (if (bt (sgText n X) t103) = 45 then (some (wrap64 (-s))) else (some s)) else (none)) else (none))) (fun q => by simp only [spec_l3At.j1]; rw [if_neg h]) (Ev.bind (ix_ev (by omega) hx) (Ev.const ?_))
    rw [if_pos h0, if_pos (by rw [sgText_size]; omega), hb']
    unfold sgC
    simp only
    rcases pm with e | e <;> rcases hs with rfl | rfl <;> rw [e] <;> decide +kernel
theorem l3At_j0 {n : Nat} (hn : 3 ≤ n ∧ n ≤ 7) {X : Int → Int → Int → Int} (hX : Chi (n : Int) X) (a b c s : Int) (hs : s = 1 ∨ s = -1) (ha : 0 ≤ a) (hab : a < b) (hb : b < (n : Int)) (hc0 : 0 ≤ c) (hc : c < (n : Int)) (hac : a ≠ c) (hbc : b ≠ c) : Ev (fun q => spec_l3At.j0 q a b c s (n : Int) (sgText n X)) (s * X a b c) := by
  by_cases h : b > c
  · have e2 := hX.s2 a b c ha (by omega) (by omega) hb hc0 hc (by omega) hbc hac
    have hw : wrap64 (-s) = -s := by rcases hs with rfl | rfl <;> decide +kernel
    have := l3At_j1 hn hX a c b (-s) (by omega) ha hc0 hac hab (by omega) hb
    rw [e2, Int.neg_mul_neg] at this
    exact Ev.step (f := fun q => spec_l3At.j1 q a c b (-s) (n : Int) (sgText n X)) (fun q => by simp only [spec_l3At.j0]; rw [if_pos h, hw]) this
  · exact Ev.step (f := fun q => spec_l3At.j1 q a b c s (n : Int) (sgText n X)) (fun q => by simp only [spec_l3At.j0]; rw [if_neg h]) (l3At_j1 hn hX a b c s hs ha (by omega) (by omega) (by omega) (by omega) hc)
theorem l3At_ev {n : Nat} (hn : 3 ≤ n ∧ n ≤ 7) {X : Int → Int → Int → Int} (hX : Chi (n : Int) X) {i j k : Int} (hi : 0 ≤ i ∧ i < (n : Int)) (hj : 0 ≤ j ∧ j < (n : Int)) (hk : 0 ≤ k ∧ k < (n : Int)) (hij : i ≠ j) (hjk : j ≠ k) (hik : i ≠ k) :
    Ev (fun q => spec_l3At.f q (n : Int) (sgText n X) i j k) (X i j k) := by
  by_cases h : i > j
  · have e1 := hX.s1 i j k hi.1 hi.2 hj.1 hj.2 hk.1 hk.2 hij hjk hik
    have := l3At_j0 hn hX j i k (-1) (Or.inr rfl) hj.1 h hi.2 hk.1 hk.2 hjk hik
    rw [e1] at this
    refine Ev.congr (fun q => ?_) (show Ev (fun q => spec_l3At.j0 q j i k (-1) (n : Int) (sgText n X)) (X i j k) by simpa using this)
    unfold spec_l3At.f
    rw [if_pos h]
  · have := l3At_j0 hn hX i j k 1 (Or.inl rfl) hi.1 (by omega) hj.2 hk.1 hk.2 hik hjk
    rw [Int.one_mul] at this
    refine Ev.congr (fun q => ?_) this
    unfold spec_l3At.f
    rw [if_neg h]
/-! ### circuits -/
theorem circ_bytes : ∀ s1 s2 s3 s4 : Int, (s1 = 1 ∨ s1 = -1) → (s2 = 1 ∨ s2 = -1) → (s3 = 1 ∨ s3 = -1) → (s4 = 1 ∨ s4 = -1) →
    ((spec_l3Byte.f (wrap64 ((wrap64 (-s1)) * s2))).bind fun t104 => (if 1 + t104.size ≤ 9223372036854775807 then ((spec_l3Byte.f (wrap64 (s1 * s3))).bind fun t106 => (if ((⟨#[43]⟩ : ByteArray) ++ t104).size + t106.size ≤ 9223372036854775807 then ((spec_l3Byte.f (wrap64 ((wrap64 (-s1)) * s4))).bind fun t108 => (if (((⟨#[43]⟩ : ByteArray) ++ t104) ++ t106).size + t108.size ≤ 9223372036854775807 then (some ((((⟨#[43]⟩ : ByteArray) ++ t104) ++ t106) ++ t108)) else (none))) else (none))) else (none))) = some (T3 (decide (s1 ≠ s2)) (decide (s1 = s3)) (decide (s1 ≠ s4))) := by
  rintro s1 s2 s3 s4 (rfl | rfl) (rfl | rfl) (rfl | rfl) (rfl | rfl) <;> kernel_rfl
theorem l4Circuit_ev {n : Nat} (hn : 3 ≤ n ∧ n ≤ 7) {X : Int → Int → Int → Int} (hX : Chi (n : Int) X) {p a b c : Int} (hp : 0 ≤ p ∧ p < (n : Int)) (ha : 0 ≤ a ∧ a < (n : Int)) (hb : 0 ≤ b ∧ b < (n : Int)) (hc : 0 ≤ c ∧ c < (n : Int)) (hpa : p ≠ a) (hpb : p ≠ b) (hpc : p ≠ c) (hab : a ≠ b) (hac : a ≠ c) (hbc : b ≠ c) :
    Ev (fun k => spec_l4Circuit.f k (n : Int) (sgText n X) p a b c) (T3 (decide (X a b c ≠ X p b c)) (decide (X a b c = X p a c)) (decide (X a b c ≠ X p a b))) := by
  obtain ⟨k1, h1⟩ := l3At_ev hn hX ha hb hc hab hbc hac
  obtain ⟨k2, h2⟩ := l3At_ev hn hX hp hb hc hpb hbc hpc
  obtain ⟨k3, h3⟩ := l3At_ev hn hX hp ha hc hpa hac hpc
  obtain ⟨k4, h4⟩ := l3At_ev hn hX hp ha hb hpa hab hpb
  refine ⟨k1 + k2 + k3 + k4, fun k hk => ?_⟩
  show spec_l4Circuit.f k _ _ _ _ _ _ = _
  have g1 : spec_l3At.f k (n : Int) (sgText n X) a b c = some _ := h1 k (by omega)
  have g2 : spec_l3At.f k (n : Int) (sgText n X) p b c = some _ := h2 k (by omega)
  have g3 : spec_l3At.f k (n : Int) (sgText n X) p a c = some _ := h3 k (by omega)
  have g4 : spec_l3At.f k (n : Int) (sgText n X) p a b = some _ := h4 k (by omega)
  unfold spec_l4Circuit.f
  rw [g1, g2, g3, g4]
  simp only [Option.bind_some]
  exact circ_bytes _ _ _ _ (mem_sg hX ha hb hc hab hbc hac) (mem_sg hX hp hb hc hpb hbc hpc) (mem_sg hX hp ha hc hpa hac hpc) (mem_sg hX hp ha hb hpa hab hpb)
theorem u7 {a : Int} (h : in7 a) : 0 ≤ IntKind.u64.wrap a := by
  obtain ⟨q, rfl⟩ := i7_of h
  revert q
  decide +kernel
theorem split5_T3 (u v w : Bool) (p a b c : Int) (hp : in7 p) (ha : in7 a) (hb : in7 b) (hc : in7 c) : spec_l5Split.l0 6 [p, a, b, c] (T3 u v w) 0 0 0 = some (addM (plusL u v w p a b c), addM (minusL u v w p a b c)) := by
  have w0 : wrap64 1 = 1 := by decide +kernel
  have w1 : wrap64 2 = 2 := by decide +kernel
  have w2 : wrap64 3 = 3 := by decide +kernel
  have w3 : wrap64 4 = 4 := by decide +kernel
  have r0 : rd [p, a, b, c] 0 = p := rfl
  have r1 : rd [p, a, b, c] 1 = a := rfl
  have r2 : rd [p, a, b, c] 2 = b := rfl
  have r3 : rd [p, a, b, c] 3 = c := rfl
  have hp := u7 hp
  have ha := u7 ha
  have hb := u7 hb
  have hc := u7 hc
  cases u <;> cases v <;> cases w <;> simp [spec_l5Split.l0, T3_size, T3_0, T3_1, T3_2, T3_3, w0, w1, w2, w3, r0, r1, r2, r3, hp, ha, hb, hc, plusL, minusL, addM]
theorem max_one {x : Int} (h : 0 ≤ x) : spec_l1Max.f x (-1) = some x := by unfold spec_l1Max.f; first | rw [if_pos (by omega)] | (simp; omega)
theorem max_two_ {x : Int} (h : 0 ≤ x) : spec_l1Max.f (-1) x = some x := by unfold spec_l1Max.f; first | rw [if_neg (by omega)] | (simp; omega)
theorem max_none : spec_l1Max.f (-1) (-1) = some (-1) := by decide +kernel
theorem inner_T3 (u v w : Bool) {p a b c : Int} (hp : in7 p) (ha : in7 a) (hb : in7 b) (hc : in7 c) (hpa : p ≠ a) (hpb : p ≠ b) (hpc : p ≠ c) (hab : a ≠ b) (hac : a ≠ c) (hbc : b ≠ c) :
    ∃ x y z, spec_l5Only.f 9 (addM (plusL u v w p a b c)) = some x ∧ spec_l5Only.f 9 (addM (minusL u v w p a b c)) = some y ∧ spec_l1Max.f x y = some z ∧ decide (z = p) = (!u && !v && !w) := by
  obtain ⟨p, rfl⟩ := i7_of hp
  obtain ⟨a, rfl⟩ := i7_of ha
  obtain ⟨b, rfl⟩ := i7_of hb
  obtain ⟨c, rfl⟩ := i7_of hc
  have pa := fin_ne hpa
  have pb := fin_ne hpb
  have pc := fin_ne hpc
  have ab := fin_ne hab
  have ac := fin_ne hac
  have bc := fin_ne hbc
  have p0 : 0 ≤ i7 p := by unfold i7; omega
  have a0 : 0 ≤ i7 a := by unfold i7; omega
  have b0 : 0 ≤ i7 b := by unfold i7; omega
  have c0 : 0 ≤ i7 c := by unfold i7; omega
  cases u <;> cases v <;> cases w
  · exact ⟨_, _, _, only_1 p, only_3 a b c ab ac bc, max_one p0, by simp⟩
  · exact ⟨_, _, _, only_2 p c pc, only_2 a b ab, max_none, by simp; omega⟩
  · exact ⟨_, _, _, only_2 p b pb, only_2 a c ac, max_none, by simp; omega⟩
  · exact ⟨_, _, _, only_3 p b c pb pc bc, only_1 a, max_two_ a0, by simp; omega⟩
  · exact ⟨_, _, _, only_2 p a pa, only_2 b c bc, max_none, by simp; omega⟩
  · exact ⟨_, _, _, only_3 p a c pa pc ac, only_1 b, max_two_ b0, by simp; omega⟩
  · exact ⟨_, _, _, only_3 p a b pa pb ab, only_1 c, max_two_ c0, by simp; omega⟩
  · exact ⟨_, _, _, only_4 p a b c pa pb ab pc ac bc, only_0, max_none, by simp; omega⟩
theorem l5Inner_ev {n : Nat} (hn : 3 ≤ n ∧ n ≤ 7) {X : Int → Int → Int → Int} (hX : Chi (n : Int) X) {p a b c : Int} (hp : 0 ≤ p ∧ p < (n : Int)) (ha : 0 ≤ a ∧ a < (n : Int)) (hb : 0 ≤ b ∧ b < (n : Int)) (hc : 0 ≤ c ∧ c < (n : Int)) (hpa : p ≠ a) (hpb : p ≠ b) (hpc : p ≠ c) (hab : a ≠ b) (hac : a ≠ c) (hbc : b ≠ c) :
    ∃ z, Ev (fun k => spec_l5Inner.f k (n : Int) (sgText n X) [p, a, b, c]) z ∧ (z = p ↔ alone X p a b c = true) := by
  have ip : in7 p := ⟨by omega, by omega⟩
  have ia : in7 a := ⟨by omega, by omega⟩
  have ib : in7 b := ⟨by omega, by omega⟩
  have ic : in7 c := ⟨by omega, by omega⟩
  obtain ⟨x, y, z, hx, hy, hm, hz⟩ := inner_T3 (decide (X a b c ≠ X p b c)) (decide (X a b c = X p a c)) (decide (X a b c ≠ X p a b)) ip ia ib ic hpa hpb hpc hab hac hbc
  rw [alone_eq] at hz
  refine ⟨z, ?_, by rw [← hz]; simp⟩
  have hsp : Ev (fun k => spec_l5Split.f k (n : Int) (sgText n X) [p, a, b, c]) (addM (plusL (decide (X a b c ≠ X p b c)) (decide (X a b c = X p a c)) (decide (X a b c ≠ X p a b)) p a b c), addM (minusL (decide (X a b c ≠ X p b c)) (decide (X a b c = X p a c)) (decide (X a b c ≠ X p a b)) p a b c)) := by
    refine Ev.iteT (show 0 < (([p, a, b, c] : List Int).length : Int) by show (0 : Int) < 4; omega) (Ev.iteT (show 1 < (([p, a, b, c] : List Int).length : Int) by show (1 : Int) < 4; omega) (Ev.iteT (show 2 < (([p, a, b, c] : List Int).length : Int) by show (2 : Int) < 4; omega) (Ev.iteT (show 3 < (([p, a, b, c] : List Int).length : Int) by show (3 : Int) < 4; omega) ?_)))
    refine Ev.bind (l4Circuit_ev hn hX hp ha hb hc hpa hpb hpc hab hac hbc) ?_
    exact Ev.of (fun k => (spec_l5Split.mono_l k) _ _ _ _ _) (split5_T3 _ _ _ p a b c ip ia ib ic)
  refine Ev.bind hsp (Ev.bind (Ev.of (fun k => spec_l5Only.mono _ k) hx) (Ev.bind (Ev.of (fun k => spec_l5Only.mono _ k) hy) (Ev.const ?_)))
  rw [hm]
  rfl
end Go.Proofs.Ytijgjpfbhbggdaa.Pure

namespace Go.Proofs.Ytijgjpfbhbggdaa.Pure
open Go.RowKit Go.Proofs.Ytijgjpfbhbggdaa.P Go.Proofs.YtijgjpfbhbggdaaW.PrintWords Go.Proofs.YtijgjpfbhbggdaaW.PrintLast Go.Proofs.Ytijgjpfbhbggdaa.Com
set_option linter.unusedSimpArgs false
set_option linter.unusedVariables false
set_option maxRecDepth 100000

theorem has_full {n : Nat} (hn : 3 ≤ n ∧ n ≤ 7) {i : Int} (h0 : 0 ≤ i) (h1 : i < (n : Int)) : spec_l6Has.f (fullM n) i = some true := by
  obtain ⟨q, rfl⟩ := i7_of (a := i) ⟨h0, by omega⟩
  exact full_has ⟨n, by omega⟩ q (by show q.1 < n; unfold i7 at h1; omega)
theorem foldX_any1 {τ : Type} (p : τ → Bool) (L : List τ) : foldX (σ := Unit) (fun _ t => if p t = true then .inr true else .inl ()) (fun _ => false) L () = L.any p := by
  rw [foldX_any p true false L]
  cases L.any p <;> rfl
theorem l6In_ev {n : Nat} (hn : 3 ≤ n ∧ n ≤ 7) {X : Int → Int → Int → Int} (hX : Chi (n : Int) X) {p : Int} (hp : 0 ≤ p ∧ p < (n : Int)) :
    Ev (fun k => spec_l6In.f k (n : Int) (sgText n X) (fullM n) p) (inH n X p) := by
  unfold inH
  rw [← foldX_any1]
  refine tripLoop (σ := Unit) (l0 := fun q _ i => spec_l6In.l0 q (fullM n) p i (n : Int) (sgText n X)) (l1 := fun q _ i j => spec_l6In.l1 q (fullM n) p i j (n : Int) (sgText n X)) (l2 := fun q _ i j k => spec_l6In.l2 q (fullM n) p i j k (n : Int) (sgText n X)) n _ _ ?_ ?_ ?_ ?_ ?_ ?_ ()
  · intro _ a b c ha hab hbc hc r hT
    by_cases hd : p ≠ a ∧ p ≠ b ∧ p ≠ c
    · obtain ⟨z, hz, hzp⟩ := l5Inner_ev hn hX hp ⟨ha, by omega⟩ (show 0 ≤ b ∧ b < (n : Int) by omega) (show 0 ≤ c ∧ c < (n : Int) by omega) hd.1 hd.2.1 hd.2.2 (by omega) (by omega) (by omega)
      have e : inAt X p (a, b, c) = alone X p a b c := by unfold inAt; simp [hd.1, hd.2.1, hd.2.2]
      refine Ev.step (f := fun q => (spec_l5Inner.f q (n : Int) (sgText n X) [p, a, b, c]).bind fun t108 => (if t108 = p then (some true) else (spec_l6In.l2 q (fullM n) p a b (c + 1) (n : Int) (sgText n X)))) (fun q => ?_) (Ev.bind hz ?_)
      · simp only [spec_l6In.l2]
        rw [if_pos hc, if_neg hd.1, if_neg hd.2.1, if_neg hd.2.2, has_full hn ha (by omega), has_full hn (show 0 ≤ b by omega) (by omega), has_full hn (show 0 ≤ c by omega) hc, w64 (by omega) (by omega)]
        rfl
      · cases hal : alone X p a b c with
        | true =>
          have : r = true := stepT_inr hT (by rw [e, hal]; rfl)
          subst this
          exact Ev.iteT (hzp.2 hal) (Ev.now _)
        | false =>
          have hC := stepT_inl (s' := ()) hT (by rw [e, hal]; rfl)
          exact Ev.iteF (fun h => by rw [hzp.1 h] at hal; cases hal) hC
    · have hne : ¬ inAt X p (a, b, c) = true := by
        unfold inAt
        simp only [Bool.and_eq_true, decide_eq_true_eq]
        rintro ⟨⟨⟨x, y⟩, z⟩, _⟩
        exact hd ⟨x, y, z⟩
      have hC := stepT_inl (s' := ()) hT (if_neg hne)
      refine Ev.step (f := fun q => spec_l6In.l2 q (fullM n) p a b (c + 1) (n : Int) (sgText n X)) (fun q => ?_) hC
      simp only [spec_l6In.l2]
      rw [if_pos hc, w64 (by omega) (by omega)]
      by_cases h1 : p = a
      · rw [if_pos h1]
      · rw [if_neg h1]
        by_cases h2 : p = b
        · rw [if_pos h2]
        · rw [if_neg h2, if_pos (by omega)]
  · intro _ i j hi hij hj r hC
    refine Ev.step (f := fun q => spec_l6In.l1 q (fullM n) p i (j + 1) (n : Int) (sgText n X)) (fun q => ?_) hC
    simp only [spec_l6In.l2]
    rw [if_neg (by omega), w64 (by omega) (by omega)]
  · intro _ i j hi hij hj r hC
    refine Ev.step (f := fun q => spec_l6In.l2 q (fullM n) p i j (j + 1) (n : Int) (sgText n X)) (fun q => ?_) hC
    simp only [spec_l6In.l1]
    rw [if_pos (by omega), w64 (by omega) (by omega)]
  · intro _ i hi hi' r hC
    refine Ev.step (f := fun q => spec_l6In.l0 q (fullM n) p (i + 1) (n : Int) (sgText n X)) (fun q => ?_) hC
    simp only [spec_l6In.l1]
    rw [if_neg (by omega), w64 (by omega) (by omega)]
  · intro _ i hi hi' r hC
    refine Ev.step (f := fun q => spec_l6In.l1 q (fullM n) p i (i + 1) (n : Int) (sgText n X)) (fun q => ?_) hC
    simp only [spec_l6In.l0]
    rw [if_pos (by omega), w64 (by omega) (by omega)]
  · intro _
    refine Ev.step (f := fun q => some false) (fun q => ?_) (Ev.now _)
    simp only [spec_l6In.l0]
    rw [if_neg (by omega)]
theorem addL_ints (f : Int → Bool) (d : Nat) : ∀ (a m : Int), (ints a d).foldl (fun out i => if f i = true then out else wrap64 (out + shl .i64 1 (IntKind.u64.wrap i))) m = addL ((ints a d).map f) a m := by
  induction d with
  | zero => intro a m; rfl
  | succ d ih => intro a m; exact ih (a + 1) _
theorem l6Extreme_ev {n : Nat} (hn : 3 ≤ n ∧ n ≤ 7) {X : Int → Int → Int → Int} (hX : Chi (n : Int) X) :
    Ev (fun k => spec_l6Extreme.f k (n : Int) (sgText n X) (fullM n)) (addL ((ints 0 n).map (inH n X)) 0 0) := by
  rw [← addL_ints]
  have hf := foldX_foldl (fun out i => if inH n X i = true then out else wrap64 (out + shl .i64 1 (IntKind.u64.wrap i))) (fun s : Int => s) (ints 0 n) 0
  rw [← hf]
  refine rangeLoop (σ := Int) (l := fun k s i => spec_l6Extreme.l0 k (fullM n) s i (n : Int) (sgText n X)) (n : Int) (stepT_mono _) (C := fun s r => r = s) 0 ?_ ?_ n 0 (by omega) (by omega) 0 _ (foldX_T (fun s t => Sum.inl (if inH n X t = true then s else wrap64 (s + shl .i64 1 (IntKind.u64.wrap t)))) (fun s : Int => s) (C := fun s r => r = s) (fun _ => rfl) (ints 0 n) 0)
  · intro s i h0 h1 r hT
    have hC := stepT_inl hT rfl
    refine Ev.step (f := fun q => (spec_l6In.f q (n : Int) (sgText n X) (fullM n) i).bind fun t103 => (if t103 = true then (spec_l6Extreme.l0 q (fullM n) s (i + 1) (n : Int) (sgText n X)) else (if 0 ≤ (IntKind.u64.wrap i) then (spec_l6Extreme.l0 q (fullM n) (wrap64 (s + (shl .i64 1 (IntKind.u64.wrap i)))) (i + 1) (n : Int) (sgText n X)) else (none)))) (fun q => ?_) (Ev.bind (l6In_ev hn hX ⟨h0, h1⟩) ?_)
    · simp only [spec_l6Extreme.l0]
      rw [if_pos h1, has_full hn h0 h1, w64 (by omega) (by omega)]
      rfl
    · cases hi : inH n X i with
      | true => rw [hi] at hC; exact Ev.iteT rfl hC
      | false => rw [hi] at hC; exact Ev.iteF (by simp) (Ev.iteT (u7 ⟨h0, by omega⟩) hC)
  · intro s r hC
    rw [show r = s from hC]
    refine Ev.step (f := fun q => some s) (fun q => ?_) (Ev.now _)
    simp only [spec_l6Extreme.l0]
    rw [if_neg (by omega)]
/-! ### signs that come from points -/
structure Ord (n : Nat) (X : Int → Int → Int → Int) : Prop where
  chi : Chi (n : Int) X
  br : ∀ a b c d e : Int, (0 ≤ a ∧ a < (n : Int)) → (0 ≤ b ∧ b < (n : Int)) → (0 ≤ c ∧ c < (n : Int)) → (0 ≤ d ∧ d < (n : Int)) → (0 ≤ e ∧ e < (n : Int)) → a ≠ b → a ≠ c → a ≠ d → a ≠ e → b ≠ c → b ≠ d → b ≠ e → c ≠ d → c ≠ e → d ≠ e → ¬ (X a b c * X a d e = X a b e * X a c d ∧ X a b e * X a c d = -X a b d * X a c e)
  ac : ∀ p a b c : Int, 0 ≤ p → p < a → a < b → b < c → c < (n : Int) → ¬ (X a b c ≠ X p b c ∧ X a b c = X p a c ∧ X a b c ≠ X p a b)
theorem sg_cases (l : PL) (i j k : Int) (h : arL l i j k ≠ 0) : (sg l i j k = 1 ∧ 0 < arL l i j k) ∨ (sg l i j k = -1 ∧ arL l i j k < 0) := by
  unfold sg
  by_cases z : 0 < arL l i j k
  · exact Or.inl ⟨if_pos z, z⟩
  · exact Or.inr ⟨if_neg z, by omega⟩
theorem plu (l : PL) (a b c d e : Int) : arL l a b c * arL l a d e - arL l a b d * arL l a c e + arL l a b e * arL l a c d = 0 := by unfold arL; grind
theorem sum4 (l : PL) (p a b c : Int) : arL l a b c - arL l p b c + arL l p a c - arL l p a b = 0 := by unfold arL; grind
theorem prod_sg {x y s t : Int} (hx : (s = 1 ∧ 0 < x) ∨ (s = -1 ∧ x < 0)) (hy : (t = 1 ∧ 0 < y) ∨ (t = -1 ∧ y < 0)) : (s * t = 1 ∧ 0 < x * y) ∨ (s * t = -1 ∧ x * y < 0) := by
  rcases hx with ⟨rfl, hx⟩ | ⟨rfl, hx⟩ <;> rcases hy with ⟨rfl, hy⟩ | ⟨rfl, hy⟩
  · exact Or.inl ⟨rfl, Int.mul_pos hx hy⟩
  · exact Or.inr ⟨rfl, Int.mul_neg_of_pos_of_neg hx hy⟩
  · exact Or.inr ⟨rfl, Int.mul_neg_of_neg_of_pos hx hy⟩
  · exact Or.inl ⟨rfl, Int.mul_pos_of_neg_of_neg hx hy⟩
theorem Pts.ord {l : PL} (h : Pts l) : Ord l.length (sg l) := by
  refine ⟨h.chi, ?_, ?_⟩
  · intro a b c d e ha hb hc hd he hab hac had hae hbc hbd hbe hcd hce hde ⟨h1, h2⟩
    have s := fun i j k (hi : 0 ≤ i ∧ i < (l.length : Int)) (hj : 0 ≤ j ∧ j < (l.length : Int)) (hk : 0 ≤ k ∧ k < (l.length : Int)) hij hjk hik => sg_cases l i j k (h.nz i j k hi.1 hi.2 hj.1 hj.2 hk.1 hk.2 hij hjk hik)
    have p1 := prod_sg (s a b c ha hb hc hab hbc hac) (s a d e ha hd he had hde hae)
    have p2 := prod_sg (s a b d ha hb hd hab hbd had) (s a c e ha hc he hac hce hae)
    have p3 := prod_sg (s a b e ha hb he hab hbe hae) (s a c d ha hc hd hac hcd had)
    have e0 := plu l a b c d e
    rw [Int.neg_mul] at h2
    omega
  · intro p a b c hp hpa hab hbc hc ⟨h1, h2, h3⟩
    have s := fun i j k (hi : 0 ≤ i ∧ i < (l.length : Int)) (hj : 0 ≤ j ∧ j < (l.length : Int)) (hk : 0 ≤ k ∧ k < (l.length : Int)) hij hjk hik => sg_cases l i j k (h.nz i j k hi.1 hi.2 hj.1 hj.2 hk.1 hk.2 hij hjk hik)
    have q1 := s a b c (by omega) (by omega) (by omega) (by omega) (by omega) (by omega)
    have q2 := s p b c (by omega) (by omega) (by omega) (by omega) (by omega) (by omega)
    have q3 := s p a c (by omega) (by omega) (by omega) (by omega) (by omega) (by omega)
    have q4 := s p a b (by omega) (by omega) (by omega) (by omega) (by omega) (by omega)
    have e0 := sum4 l p a b c
    omega
end Go.Proofs.Ytijgjpfbhbggdaa.Pure

namespace Go.Proofs.Ytijgjpfbhbggdaa.Pure
open Go.RowKit Go.Proofs.Ytijgjpfbhbggdaa.P Go.Proofs.YtijgjpfbhbggdaaW.PrintWords Go.Proofs.YtijgjpfbhbggdaaW.PrintLast Go.Proofs.Ytijgjpfbhbggdaa.Com
set_option linter.unusedSimpArgs false
set_option linter.unusedVariables false
set_option maxRecDepth 100000

/-- A loop that looks and goes on. -/
theorem upLoop {ρ : Type} {l : Nat → Int → Option ρ} (a m : Int) (r : ρ) (hs : ∀ i, a ≤ i → i < m → Ev (fun q => l q (i + 1)) r → Ev (fun q => l q i) r) (d : Nat) : ∀ i, a ≤ i → i + d = m → Ev (fun q => l q m) r → Ev (fun q => l q i) r := by
  induction d with
  | zero => intro i _ hi h; obtain rfl : i = m := by omega
            exact h
  | succ d ih => intro i h0 hi h; exact hs i h0 (by omega) (ih (i + 1) (by omega) (by omega) h)
theorem upLoop' {ρ : Type} {l : Nat → Int → Option ρ} (a m : Int) (r : ρ) (hs : ∀ i, a ≤ i → i < m → Ev (fun q => l q (i + 1)) r → Ev (fun q => l q i) r) (ham : a ≤ m) (h : Ev (fun q => l q m) r) : Ev (fun q => l q a) r := upLoop a m r hs (m - a).toNat a (by omega) (by omega) h
theorem count_n : ∀ n : Fin 8, 3 ≤ n.1 → (((trips n.1).length : Int) != (wrap64 (Int.tdiv (wrap64 ((wrap64 ((n.1 : Int) * (wrap64 ((n.1 : Int) - 1)))) * (wrap64 ((n.1 : Int) - 2)))) 6))) = false := by decide +kernel
theorem AreSigns_ev {n : Nat} (hn : 3 ≤ n ∧ n ≤ 7) (X : Int → Int → Int → Int) : Ev (fun k => spec_AreSigns.f k (n : Int) (sgText n X)) true := by
  have hlen := trips_small n (by omega)
  refine Ev.bind0 (a := true) (by rw [l1In_eq]; simp; omega) (Ev.iteT rfl ?_)
  rw [sgText_size, count_n ⟨n, by omega⟩ hn.1]
  refine Ev.step (f := fun q => spec_AreSigns.l0 q 0 (n : Int) (sgText n X)) (fun q => by simp only [spec_AreSigns.j0]; rw [if_neg (by decide)]) ?_
  refine upLoop' (l := fun q i => spec_AreSigns.l0 q i (n : Int) (sgText n X)) 0 ((trips n).length : Int) true ?_ (by omega) (Ev.step (f := fun _ => some true) (fun q => by simp only [spec_AreSigns.l0]; rw [if_neg (by rw [sgText_size]; omega)]) (Ev.now _))
  intro i h0 h1 hC
  have hb := sgText_at X h0 (show i.toNat < (trips n).length by omega)
  refine Ev.step (f := fun q => spec_AreSigns.l0 q (i + 1) (n : Int) (sgText n X)) (fun q => ?_) hC
  simp only [spec_AreSigns.l0]
  rw [if_pos (by rw [sgText_size]; omega), if_pos h0, hb, w64 (by omega) (by omega)]
  unfold sgC
  split
  · rw [if_pos rfl]
  · rw [if_neg (by decide), if_pos rfl]
def othL (n : Nat) (e : Int) : List Int := (ints 0 n).filter fun i => decide (i ≠ e)
theorem oth_is : ∀ n : Fin 8, ∀ e : Fin 7, e.1 < n.1 → spec_l3Others.f 20 (n.1 : Int) (i7 e) = some (othL n.1 (i7 e)) := by decide +kernel
theorem oth_ok : ∀ n : Fin 8, ∀ e : Fin 7, e.1 < n.1 → (othL n.1 (i7 e)).length ≤ 7 ∧ ∀ i : Fin 7, i.1 < (othL n.1 (i7 e)).length → (0 ≤ rd (othL n.1 (i7 e)) (i7 i) ∧ rd (othL n.1 (i7 e)) (i7 i) < (n.1 : Int)) ∧ i7 e ≠ rd (othL n.1 (i7 e)) (i7 i) ∧ ∀ j : Fin 7, i.1 < j.1 → j.1 < (othL n.1 (i7 e)).length → rd (othL n.1 (i7 e)) (i7 i) ≠ rd (othL n.1 (i7 e)) (i7 j) := by decide +kernel
theorem breaks_ev {n : Nat} (hn : 3 ≤ n ∧ n ≤ 7) {X : Int → Int → Int → Int} (hX : Ord n X) {a b c d e : Int} (ha : 0 ≤ a ∧ a < (n : Int)) (hb : 0 ≤ b ∧ b < (n : Int)) (hc : 0 ≤ c ∧ c < (n : Int)) (hd : 0 ≤ d ∧ d < (n : Int)) (he : 0 ≤ e ∧ e < (n : Int)) (hab : a ≠ b) (hac : a ≠ c) (had : a ≠ d) (hae : a ≠ e) (hbc : b ≠ c) (hbd : b ≠ d) (hbe : b ≠ e) (hcd : c ≠ d) (hce : c ≠ e) (hde : d ≠ e) :
    Ev (fun k => spec_l4Breaks.f k (n : Int) (sgText n X) a b c d e) false := by
  have hC := hX.chi
  obtain ⟨k1, h1⟩ := l3At_ev hn hC ha hb hc hab hbc hac
  obtain ⟨k2, h2⟩ := l3At_ev hn hC ha hd he had hde hae
  obtain ⟨k3, h3⟩ := l3At_ev hn hC ha hb he hab hbe hae
  obtain ⟨k4, h4⟩ := l3At_ev hn hC ha hc hd hac hcd had
  obtain ⟨k5, h5⟩ := l3At_ev hn hC ha hb hd hab hbd had
  obtain ⟨k6, h6⟩ := l3At_ev hn hC ha hc he hac hce hae
  refine ⟨k1 + k2 + k3 + k4 + k5 + k6, fun k hk => ?_⟩
  show spec_l4Breaks.f k _ _ _ _ _ _ _ = _
  have g1 : spec_l3At.f k (n : Int) (sgText n X) a b c = some _ := h1 k (by omega)
  have g2 : spec_l3At.f k (n : Int) (sgText n X) a d e = some _ := h2 k (by omega)
  have g3 : spec_l3At.f k (n : Int) (sgText n X) a b e = some _ := h3 k (by omega)
  have g4 : spec_l3At.f k (n : Int) (sgText n X) a c d = some _ := h4 k (by omega)
  have g5 : spec_l3At.f k (n : Int) (sgText n X) a b d = some _ := h5 k (by omega)
  have g6 : spec_l3At.f k (n : Int) (sgText n X) a c e = some _ := h6 k (by omega)
  unfold spec_l4Breaks.f
  rw [g1, g2, g3, g4, g5, g6]
  simp only [Option.bind_some]
  have hbr := hX.br a b c d e ha hb hc hd he hab hac had hae hbc hbd hbe hcd hce hde
  have m1 := mem_sg hC ha hb hc hab hbc hac
  have m2 := mem_sg hC ha hd he had hde hae
  have m3 := mem_sg hC ha hb he hab hbe hae
  have m4 := mem_sg hC ha hc hd hac hcd had
  have m5 := mem_sg hC ha hb hd hab hbd had
  have m6 := mem_sg hC ha hc he hac hce hae
  have key : ∀ s1 s2 s3 s4 s5 s6 : Int, (s1 = 1 ∨ s1 = -1) → (s2 = 1 ∨ s2 = -1) → (s3 = 1 ∨ s3 = -1) → (s4 = 1 ∨ s4 = -1) → (s5 = 1 ∨ s5 = -1) → (s6 = 1 ∨ s6 = -1) → ¬ (s1 * s2 = s3 * s4 ∧ s3 * s4 = -s5 * s6) → (if (wrap64 (s1 * s2)) = (wrap64 (s3 * s4)) then (some ((wrap64 (s3 * s4)) == (wrap64 ((wrap64 (-s5)) * s6)))) else (some false)) = some false := by
    rintro s1 s2 s3 s4 s5 s6 (rfl | rfl) (rfl | rfl) (rfl | rfl) (rfl | rfl) (rfl | rfl) (rfl | rfl) h <;> first | exact absurd ⟨by decide, by decide⟩ h | decide +kernel
  exact key _ _ _ _ _ _ m1 m2 m3 m4 m5 m6 hbr
theorem FirstBreak_ev {n : Nat} (hn : 3 ≤ n ∧ n ≤ 7) {X : Int → Int → Int → Int} (hX : Ord n X) : Ev (fun k => spec_FirstBreak.f k (n : Int) (sgText n X)) ([] : List Int) := by
  refine upLoop' (l := fun q i => spec_FirstBreak.l0 q i (n : Int) (sgText n X)) 0 (n : Int) _ ?_ (by omega) (Ev.step (f := fun q => spec_FirstBreak.j1 q (n : Int) false (n : Int) (sgText n X)) (fun q => by simp only [spec_FirstBreak.l0]; rw [if_neg (by omega)]) (Ev.step (f := fun _ => some []) (fun q => by simp only [spec_FirstBreak.j1]; rw [if_neg (by decide)]) (Ev.now _)))
  intro e h0 h1 hC
  obtain ⟨q, rfl⟩ := i7_of (a := e) ⟨h0, by omega⟩
  have hq : q.1 < n := by unfold i7 at h1; omega
  have ho := oth_is ⟨n, by omega⟩ q hq
  obtain ⟨hl7, hok⟩ := oth_ok ⟨n, by omega⟩ q hq
  obtain ⟨O, hO⟩ : ∃ O, othL n (i7 q) = O := ⟨_, rfl⟩
  simp only [hO] at ho hl7 hok
  have at_ : ∀ i : Int, 0 ≤ i → i < O.length → (0 ≤ rd O i ∧ rd O i < (n : Int)) ∧ i7 q ≠ rd O i ∧ ∀ j : Int, i < j → j < O.length → rd O i ≠ rd O j := by
    intro i i0 i1
    obtain ⟨f, rfl⟩ := i7_of (a := i) ⟨i0, by omega⟩
    obtain ⟨a1, a2, a3⟩ := hok f (by unfold i7 at i1; omega)
    refine ⟨a1, a2, fun j ij j1 => ?_⟩
    obtain ⟨g, rfl⟩ := i7_of (a := j) ⟨by omega, by omega⟩
    exact a3 g (by unfold i7 at ij; omega) (by unfold i7 at j1; omega)
  refine Ev.step (f := fun k => (spec_AreSigns.f k (n : Int) (sgText n X)).bind fun t102 => (spec_FirstBreak.j1 k (i7 q) t102 (n : Int) (sgText n X))) (fun k => by simp only [spec_FirstBreak.l0]; rw [if_pos h1]) (Ev.bind (AreSigns_ev hn X) ?_)
  refine Ev.step (f := fun k => (spec_l3Others.f k (n : Int) (i7 q)).bind fun t106 => (spec_FirstBreak.l1 k (i7 q) t106 0 (n : Int) (sgText n X))) (fun k => by simp only [spec_FirstBreak.j1]; rw [if_pos trivial]) (Ev.bind (Ev.of (fun k => spec_l3Others.mono _ _ k) ho) ?_)
  refine upLoop' (l := fun k i => spec_FirstBreak.l1 k (i7 q) O i (n : Int) (sgText n X)) 0 (O.length : Int) _ ?_ (by omega) (Ev.step (f := fun k => spec_FirstBreak.l0 k (i7 q + 1) (n : Int) (sgText n X)) (fun k => by simp only [spec_FirstBreak.l1]; rw [if_neg (by omega), w64 (by omega) (by omega)]) hC)
  intro i i0 i1 hCi
  refine Ev.step (f := fun k => spec_FirstBreak.l2 k (i7 q) O i (i + 1) (n : Int) (sgText n X)) (fun k => by simp only [spec_FirstBreak.l1]; rw [if_pos i1, w64 (by omega) (by omega)]) ?_
  refine upLoop' (l := fun k j => spec_FirstBreak.l2 k (i7 q) O i j (n : Int) (sgText n X)) (i + 1) (O.length : Int) _ ?_ (by omega) (Ev.step (f := fun k => spec_FirstBreak.l1 k (i7 q) O (i + 1) (n : Int) (sgText n X)) (fun k => by simp only [spec_FirstBreak.l2]; rw [if_neg (by omega), w64 (by omega) (by omega)]) hCi)
  intro j j0 j1 hCj
  refine Ev.step (f := fun k => spec_FirstBreak.l3 k (i7 q) O i j (j + 1) (n : Int) (sgText n X)) (fun k => by simp only [spec_FirstBreak.l2]; rw [if_pos j1, w64 (by omega) (by omega)]) ?_
  refine upLoop' (l := fun k m => spec_FirstBreak.l3 k (i7 q) O i j m (n : Int) (sgText n X)) (j + 1) (O.length : Int) _ ?_ (by omega) (Ev.step (f := fun k => spec_FirstBreak.l2 k (i7 q) O i (j + 1) (n : Int) (sgText n X)) (fun k => by simp only [spec_FirstBreak.l3]; rw [if_neg (by omega), w64 (by omega) (by omega)]) hCj)
  intro m m0 m1 hCm
  refine Ev.step (f := fun k => spec_FirstBreak.l4 k (i7 q) O i j m (m + 1) (n : Int) (sgText n X)) (fun k => by simp only [spec_FirstBreak.l3]; rw [if_pos m1, w64 (by omega) (by omega)]) ?_
  refine upLoop' (l := fun k p => spec_FirstBreak.l4 k (i7 q) O i j m p (n : Int) (sgText n X)) (m + 1) (O.length : Int) _ ?_ (by omega) (Ev.step (f := fun k => spec_FirstBreak.l3 k (i7 q) O i j (m + 1) (n : Int) (sgText n X)) (fun k => by simp only [spec_FirstBreak.l4]; rw [if_neg (by omega), w64 (by omega) (by omega)]) hCm)
  intro p p0 p1 hCp
  obtain ⟨b1, b2, b3⟩ := at_ i i0 i1
  obtain ⟨c1, c2, c3⟩ := at_ j (by omega) j1
  obtain ⟨d1, d2, d3⟩ := at_ m (by omega) m1
  obtain ⟨e1, e2, e3⟩ := at_ p (by omega) p1
  refine Ev.step (f := fun k => (spec_l4Breaks.f k (n : Int) (sgText n X) (i7 q) (rd O i) (rd O j) (rd O m) (rd O p)).bind fun t113 => (if t113 = true then (some (([i7 q, rd O i, rd O j, rd O m, rd O p] : List Int))) else (spec_FirstBreak.l4 k (i7 q) O i j m (p + 1) (n : Int) (sgText n X)))) (fun k => ?_) (Ev.bind (breaks_ev hn hX ⟨h0, h1⟩ b1 c1 d1 e1 b2 c2 d2 e2 (b3 j (by omega) j1) (b3 m (by omega) m1) (b3 p (by omega) p1) (c3 m (by omega) m1) (c3 p (by omega) p1) (d3 p (by omega) p1)) (Ev.iteF (by decide) hCp))
  simp only [spec_FirstBreak.l4]
  rw [if_pos p1, if_pos i0, if_pos i1, if_pos (by omega), if_pos j1, if_pos (by omega), if_pos m1, if_pos (by omega), w64 (by omega) (by omega)]
theorem T3_plus : ∀ u v w : Bool, ((T3 u v w).toList = ([43, 43, 43, 43] : List UInt8) ↔ u = true ∧ v = true ∧ w = true) := by decide +kernel
theorem l4Acyclic_ev {n : Nat} (hn : 3 ≤ n ∧ n ≤ 7) {X : Int → Int → Int → Int} (hX : Ord n X) : Ev (fun k => spec_l4Acyclic.f k (n : Int) (sgText n X)) true := by
  refine upLoop' (l := fun q i => spec_l4Acyclic.l0 q i (n : Int) (sgText n X)) 0 (n : Int) _ ?_ (by omega) (Ev.step (f := fun q => some true) (fun q => by simp only [spec_l4Acyclic.l0]; rw [if_neg (by omega)]) (Ev.now _))
  intro p p0 p1 hCp
  refine Ev.step (f := fun k => spec_l4Acyclic.l1 k p (p + 1) (n : Int) (sgText n X)) (fun k => by simp only [spec_l4Acyclic.l0]; rw [if_pos p1, w64 (by omega) (by omega)]) ?_
  refine upLoop' (l := fun k j => spec_l4Acyclic.l1 k p j (n : Int) (sgText n X)) (p + 1) (n : Int) _ ?_ (by omega) (Ev.step (f := fun k => spec_l4Acyclic.l0 k (p + 1) (n : Int) (sgText n X)) (fun k => by simp only [spec_l4Acyclic.l1]; rw [if_neg (by omega), w64 (by omega) (by omega)]) hCp)
  intro a a0 a1 hCa
  refine Ev.step (f := fun k => spec_l4Acyclic.l2 k p a (a + 1) (n : Int) (sgText n X)) (fun k => by simp only [spec_l4Acyclic.l1]; rw [if_pos a1, w64 (by omega) (by omega)]) ?_
  refine upLoop' (l := fun k j => spec_l4Acyclic.l2 k p a j (n : Int) (sgText n X)) (a + 1) (n : Int) _ ?_ (by omega) (Ev.step (f := fun k => spec_l4Acyclic.l1 k p (a + 1) (n : Int) (sgText n X)) (fun k => by simp only [spec_l4Acyclic.l2]; rw [if_neg (by omega), w64 (by omega) (by omega)]) hCa)
  intro b b0 b1 hCb
  refine Ev.step (f := fun k => spec_l4Acyclic.l3 k p a b (b + 1) (n : Int) (sgText n X)) (fun k => by simp only [spec_l4Acyclic.l2]; rw [if_pos b1, w64 (by omega) (by omega)]) ?_
  refine upLoop' (l := fun k j => spec_l4Acyclic.l3 k p a b j (n : Int) (sgText n X)) (b + 1) (n : Int) _ ?_ (by omega) (Ev.step (f := fun k => spec_l4Acyclic.l2 k p a (b + 1) (n : Int) (sgText n X)) (fun k => by simp only [spec_l4Acyclic.l3]; rw [if_neg (by omega), w64 (by omega) (by omega)]) hCb)
  intro c c0 c1 hCc
  have hac := hX.ac p a b c p0 (by omega) (by omega) (by omega) c1
  refine Ev.step (f := fun k => (spec_l4Circuit.f k (n : Int) (sgText n X) p a b c).bind fun t102 => (if t102.toList = ([43, 43, 43, 43] : List UInt8) then (some false) else (spec_l4Acyclic.l3 k p a b (c + 1) (n : Int) (sgText n X)))) (fun k => by simp only [spec_l4Acyclic.l3]; rw [if_pos c1, w64 (by omega) (by omega)]) (Ev.bind (l4Circuit_ev hn hX.chi ⟨p0, p1⟩ ⟨by omega, a1⟩ ⟨by omega, b1⟩ ⟨by omega, c1⟩ (by omega) (by omega) (by omega) (by omega) (by omega) (by omega)) (Ev.iteF ?_ hCc))
  rw [T3_plus]
  simp only [decide_eq_true_eq]
  exact hac
theorem IsAcyclic_ev {n : Nat} (hn : 3 ≤ n ∧ n ≤ 7) {X : Int → Int → Int → Int} (hX : Ord n X) : Ev (fun k => spec_IsAcyclic.f k (n : Int) (sgText n X)) true := by
  have hm : Ev (fun k => spec_IsMatroid.f k (n : Int) (sgText n X)) true := Ev.bind (AreSigns_ev hn X) (Ev.iteT rfl (Ev.bind (FirstBreak_ev hn hX) (Ev.const rfl)))
  exact Ev.bind hm (Ev.iteT rfl (Ev.bind (l4Acyclic_ev hn hX) (Ev.now _)))
end Go.Proofs.Ytijgjpfbhbggdaa.Pure

namespace Go.Proofs.Ytijgjpfbhbggdaa.Hul
set_option linter.unusedSimpArgs false
set_option linter.unusedVariables false
abbrev Pt := Int × Int
def ar (a b c : Pt) : Int := (b.1 - a.1) * (c.2 - a.2) - (b.2 - a.2) * (c.1 - a.1)
theorem ar_rot (a b c : Pt) : ar b c a = ar a b c := by unfold ar; grind
theorem ar_swap (a b c : Pt) : ar b a c = -ar a b c := by unfold ar; grind
theorem ar_swap2 (a b c : Pt) : ar a c b = -ar a b c := by unfold ar; grind
/-- p is inside the triangle. -/
def inT (p a b c : Pt) : Prop := (0 < ar p a b ∧ 0 < ar p b c ∧ 0 < ar p c a) ∨ (ar p a b < 0 ∧ ar p b c < 0 ∧ ar p c a < 0)
theorem ar_cram2 (q r a b c : Pt) : ar q b c * ar r q a + ar q c a * ar r q b + ar q a b * ar r q c = 0 := by unfold ar; grind
/-- A list of points, no three on a line. -/
structure Gen (n : Nat) (P : Nat → Pt) : Prop where
  three : 3 ≤ n
  nz : ∀ i j k, i < n → j < n → k < n → i ≠ j → j ≠ k → i ≠ k → ar (P i) (P j) (P k) ≠ 0
variable {n : Nat} {P : Nat → Pt}
def ext (n : Nat) (P : Nat → Pt) (p : Nat) : Prop := p < n ∧ ∀ a b c, a < n → b < n → c < n → a ≠ p → b ≠ p → c ≠ p → a ≠ b → b ≠ c → a ≠ c → ¬ inT (P p) (P a) (P b) (P c)
/-- q follows p: all others lie to the left. -/
def nxt (n : Nat) (P : Nat → Pt) (p q : Nat) : Prop := q < n ∧ q ≠ p ∧ ∀ k, k < n → k ≠ p → k ≠ q → 0 < ar (P p) (P q) (P k)
theorem nxt_ex (h : Gen n P) {p : Nat} (hp : ext n P p) : ∃ q, nxt n P p q := by
  have key : ∀ m, m ≤ n → (∃ k, k < m ∧ k ≠ p) → ∃ q, q < m ∧ q ≠ p ∧ ∀ k, k < m → k ≠ p → k ≠ q → 0 < ar (P p) (P q) (P k) := by
    intro m
    induction m with
    | zero => rintro _ ⟨k, hk, _⟩; exact absurd hk (Nat.not_lt_zero _)
    | succ m ih =>
      intro hm hex
      by_cases hmp : m = p
      · have : ∃ k, k < m ∧ k ≠ p := by obtain ⟨k, hk, hkp⟩ := hex; exact ⟨k, by omega, hkp⟩
        obtain ⟨q, hq, hqp, hall⟩ := ih (by omega) this
        exact ⟨q, by omega, hqp, fun k hk hkp hkq => hall k (by omega) hkp hkq⟩
      · by_cases hex2 : ∃ k, k < m ∧ k ≠ p
        · obtain ⟨q, hq, hqp, hall⟩ := ih (by omega) hex2
          have hne := h.nz p q m hp.1 (by omega) (by omega) (by omega) (by omega) (by omega)
          rcases Int.lt_or_le 0 (ar (P p) (P q) (P m)) with hlt | hle
          · refine ⟨q, by omega, hqp, fun k hk hkp hkq => ?_⟩
            by_cases hkm : k = m
            · subst hkm; exact hlt
            · exact hall k (by omega) hkp hkq
          · have hmq : 0 < ar (P p) (P m) (P q) := by rw [ar_swap2]; omega
            refine ⟨m, by omega, hmp, fun k hk hkp hkm => ?_⟩
            by_cases hkq : k = q
            · subst hkq; exact hmq
            · have h1 := hall k (by omega) hkp hkq
              have hne2 := h.nz p m k hp.1 (by omega) (by omega) (by omega) (by omega) (by omega)
              rcases Int.lt_or_le 0 (ar (P p) (P m) (P k)) with hlt2 | hle2
              · exact hlt2
              · exfalso
                have h2 : 0 < ar (P p) (P k) (P m) := by rw [ar_swap2]; omega
                exact hp.2 q k m (by omega) (by omega) (by omega) hqp hkp hmp (by omega) (by omega) (by omega) (Or.inl ⟨h1, h2, hmq⟩)
        · refine ⟨m, by omega, hmp, fun k hk hkp hkm => absurd ⟨k, by omega, hkp⟩ hex2⟩
  obtain ⟨q, hq⟩ := key n (Nat.le_refl n) ⟨if p = 0 then 1 else 0, by have := h.three; split <;> omega, by split <;> omega⟩
  exact ⟨q, hq⟩
theorem nxt_unique {p q r : Nat} (h1 : nxt n P p q) (h2 : nxt n P p r) : q = r := by
  by_cases e : q = r
  · exact e
  · have a := h1.2.2 r h2.1 h2.2.1 (fun x => e x.symm)
    have b := h2.2.2 q h1.1 h1.2.1 e
    rw [ar_swap2] at b
    omega
theorem nxt_inj {p r q : Nat} (hp : p < n) (hr : r < n) (h1 : nxt n P p q) (h2 : nxt n P r q) : p = r := by
  by_cases e : p = r
  · exact e
  · have a := h1.2.2 r hr (fun x => e x.symm) h2.2.1.symm
    have b := h2.2.2 p hp e h1.2.1.symm
    have : ar (P r) (P q) (P p) = -ar (P p) (P q) (P r) := by unfold ar; grind
    omega
/-- What follows is extreme. -/
theorem nxt_ext (h : Gen n P) {p q : Nat} (hp : p < n) (hq : nxt n P p q) : ext n P q := by
  refine ⟨hq.1, fun a b c ha hb hc ha' hb' hc' hab hbc hac hin => ?_⟩
  have side : ∀ x, x < n → x ≠ q → 0 ≤ ar (P p) (P q) (P x) ∧ (x ≠ p → 0 < ar (P p) (P q) (P x)) := by
    intro x hx hxq
    by_cases e : x = p
    · subst e; exact ⟨by unfold ar; simp, fun x => absurd rfl x⟩
    · exact ⟨Int.le_of_lt (hq.2.2 x hx e hxq), fun _ => hq.2.2 x hx e hxq⟩
  have sa := side a ha ha'
  have sb := side b hb hb'
  have sc := side c hc hc'
  have e := ar_cram2 (P q) (P p) (P a) (P b) (P c)
  have pos : ∀ {x y : Int}, 0 < x → 0 ≤ y → 0 ≤ x * y := fun hx hy => Int.mul_nonneg (Int.le_of_lt hx) hy
  have pp : ∀ {x y : Int}, 0 < x → 0 < y → 0 < x * y := fun hx hy => Int.mul_pos hx hy
  rcases hin with ⟨i1, i2, i3⟩ | ⟨i1, i2, i3⟩
  · have p1 := pos i2 sa.1
    have p2 := pos i3 sb.1
    have p3 := pos i1 sc.1
    by_cases hpa : a = p
    · have := pp i3 (sb.2 (by omega)); omega
    · have := pp i2 (sa.2 hpa); omega
  · have p1 := pos (show 0 < -ar (P q) (P b) (P c) by omega) sa.1
    have p2 := pos (show 0 < -ar (P q) (P c) (P a) by omega) sb.1
    have p3 := pos (show 0 < -ar (P q) (P a) (P b) by omega) sc.1
    rw [Int.neg_mul] at p1 p2 p3
    by_cases hpa : a = p
    · have := pp (show 0 < -ar (P q) (P c) (P a) by omega) (sb.2 (by omega)); rw [Int.neg_mul] at this; omega
    · have := pp (show 0 < -ar (P q) (P b) (P c) by omega) (sa.2 hpa); rw [Int.neg_mul] at this; omega
/-! #### the round of what follows -/
open Classical in
noncomputable def nx (n : Nat) (P : Nat → Pt) (p : Nat) : Nat := if h : ∃ q, nxt n P p q then h.choose else 0
theorem nx_is (h : Gen n P) {p : Nat} (hp : ext n P p) : nxt n P p (nx n P p) := by
  have e := nxt_ex h hp
  unfold nx
  rw [dif_pos e]
  exact e.choose_spec
noncomputable def it (n : Nat) (P : Nat → Pt) (e : Nat) : Nat → Nat
  | 0 => e
  | k + 1 => nx n P (it n P e k)
theorem it_ext (h : Gen n P) {e : Nat} (he : ext n P e) : ∀ k, ext n P (it n P e k) := by
  intro k
  induction k with
  | zero => exact he
  | succ k ih => exact nxt_ext h ih.1 (nx_is h ih)
theorem it_next (h : Gen n P) {e : Nat} (he : ext n P e) (k : Nat) : nxt n P (it n P e k) (it n P e (k + 1)) := nx_is h (it_ext h he k)
theorem it_back (h : Gen n P) {e : Nat} (he : ext n P e) : ∀ (i j : Nat), i ≤ j → it n P e i = it n P e j → it n P e (j - i) = e := by
  intro i
  induction i with
  | zero => intro j _ hj; rw [Nat.sub_zero]; exact hj.symm
  | succ i ih =>
    intro j hij hj
    obtain ⟨m, rfl⟩ : ∃ m, j = m + 1 := ⟨j - 1, by omega⟩
    have h1 := it_next h he i
    have h2 := it_next h he m
    rw [hj] at h1
    have := nxt_inj (it_ext h he i).1 (it_ext h he m).1 h1 h2
    have r := ih m (by omega) this
    rwa [show m + 1 - (i + 1) = m - i by omega]
theorem nodup_bound {m : Nat} (L : List Nat) (hL : L.Nodup) (h : ∀ x ∈ L, x < m) : L.length ≤ m := by
  have : ((List.range m).filter fun x => decide (x ∈ L)).Perm L := (List.perm_ext_iff_of_nodup (List.nodup_range.filter _) hL).2 fun x => by
    rw [List.mem_filter, List.mem_range]
    simp only [decide_eq_true_eq]
    exact ⟨fun y => y.2, fun y => ⟨h x y, y⟩⟩
  rw [← this.length_eq]
  have := List.length_filter_le (fun x => decide (x ∈ L)) (List.range m)
  rwa [List.length_range] at this
/-- The round closes. -/
theorem it_closes (h : Gen n P) {e : Nat} (he : ext n P e) : ∃ t, 0 < t ∧ t ≤ n ∧ it n P e t = e ∧ ∀ j, 0 < j → j < t → it n P e j ≠ e := by
  have ex : ∃ t, 0 < t ∧ t ≤ n ∧ it n P e t = e := by
    by_cases hx : ∃ t, 0 < t ∧ t ≤ n ∧ it n P e t = e
    · exact hx
    · exfalso
      have hnd : ((List.range (n + 1)).map (it n P e)).Nodup := by
        refine List.pairwise_map.2 (List.Pairwise.imp_of_mem ?_ (List.pairwise_lt_range (n := n + 1)))
        intro i j hi hj hij hh
        have hj := List.mem_range.1 hj
        exact hx ⟨j - i, by omega, by omega, it_back h he i j (by omega) hh⟩
      have := nodup_bound (m := n) _ hnd fun x hx => by
        obtain ⟨k, _, rfl⟩ := List.mem_map.1 hx
        exact (it_ext h he k).1
      rw [List.length_map, List.length_range] at this
      omega
  have least : ∀ m, (∃ t, 0 < t ∧ t ≤ m ∧ it n P e t = e) → ∃ t, 0 < t ∧ t ≤ m ∧ it n P e t = e ∧ ∀ j, 0 < j → j < t → it n P e j ≠ e := by
    intro m
    induction m with
    | zero => rintro ⟨t, h0, h1, _⟩; omega
    | succ m ih =>
      intro hex
      by_cases h2 : ∃ t, 0 < t ∧ t ≤ m ∧ it n P e t = e
      · obtain ⟨t, a, b, c⟩ := ih h2; exact ⟨t, a, by omega, c⟩
      · obtain ⟨t, a, b, c⟩ := hex
        exact ⟨t, a, b, c, fun j hj hjt hje => h2 ⟨j, hj, by omega, hje⟩⟩
  exact least n ex
/-- A point to the left of the round's sides lies in a triangle of the fan: there is a side that sees it. -/
theorem fan_at (P : Nat → Pt) (c : Nat → Nat) (z : Pt) (t : Nat) (h1 : 0 < ar (P (c 0)) (P (c 1)) z) (h2 : ar (P (c 0)) (P (c t)) z < 0) (ht : 1 ≤ t) : ∃ i, 1 ≤ i ∧ i < t ∧ 0 < ar (P (c 0)) (P (c i)) z ∧ ar (P (c 0)) (P (c (i + 1))) z ≤ 0 := by
  have key : ∀ m, 1 ≤ m → (∃ i, 1 ≤ i ∧ i < m ∧ 0 < ar (P (c 0)) (P (c i)) z ∧ ar (P (c 0)) (P (c (i + 1))) z ≤ 0) ∨ 0 < ar (P (c 0)) (P (c m)) z := by
    intro m
    induction m with
    | zero => omega
    | succ m ihm =>
      intro _
      by_cases e0 : m = 0
      · subst e0; exact Or.inr h1
      · rcases ihm (by omega) with ⟨i, a, b, c1, d⟩ | hpos
        · exact Or.inl ⟨i, a, by omega, c1, d⟩
        · rcases Int.lt_or_le 0 (ar (P (c 0)) (P (c (m + 1))) z) with hlt | hle
          · exact Or.inr hlt
          · exact Or.inl ⟨m, by omega, by omega, hpos, hle⟩
  rcases key t ht with hx | hpos
  · exact hx
  · omega
/-- Every extreme element is on the round. -/
theorem it_all (h : Gen n P) {e : Nat} (he : ext n P e) {t : Nat} (h0 : 0 < t) (ht : it n P e t = e) (hj : ∀ j, 0 < j → j < t → it n P e j ≠ e) {x : Nat} (hx : ext n P x) : ∃ j, j < t ∧ it n P e j = x := by
  by_cases hin : ∃ j, j < t ∧ it n P e j = x
  · exact hin
  exfalso
  have hne : ∀ j, j < t → it n P e j ≠ x := fun j hj hjx => hin ⟨j, hj, hjx⟩
  have left : ∀ j, j < t → 0 < ar (P (it n P e j)) (P (it n P e (j + 1))) (P x) := by
    intro j hjt
    refine (it_next h he j).2.2 x hx.1 (fun hh => hne j hjt hh.symm) (fun hh => ?_)
    by_cases hl : j + 1 = t
    · rw [hl, ht] at hh; exact hne 0 h0 hh.symm
    · exact hne (j + 1) (by omega) hh.symm
  have t1 : t ≠ 1 := by
    rintro rfl
    exact (it_next h he 0).2.1 ht
  have l1 : 0 < ar (P (it n P e 0)) (P (it n P e 1)) (P x) := left 0 h0
  have l2 : ar (P (it n P e 0)) (P (it n P e (t - 1))) (P x) < 0 := by
    have := left (t - 1) (by omega)
    rw [show t - 1 + 1 = t by omega, ht] at this
    have e2 : ar (P e) (P (it n P e (t - 1))) (P x) = -ar (P (it n P e (t - 1))) (P e) (P x) := by rw [ar_swap]
    show ar (P e) _ _ < 0
    omega
  obtain ⟨i, a, b, c1, d⟩ := fan_at P (it n P e) (P x) (t - 1) l1 l2 (by omega)
  have l3 := left i (by omega)
  have hi := hne i (by omega)
  have hi1 := hne (i + 1) (by omega)
  have he0 : it n P e i ≠ e := hj i (by omega) (by omega)
  have he1 : it n P e (i + 1) ≠ e := hj (i + 1) (by omega) (by omega)
  have hxe : x ≠ e := fun hh => hne 0 h0 hh.symm
  have d' : ar (P e) (P (it n P e (i + 1))) (P x) ≠ 0 := h.nz _ _ _ he.1 (it_ext h he _).1 hx.1 he1.symm hi1 (fun hh => hxe hh.symm)
  have d2 : ar (P e) (P (it n P e (i + 1))) (P x) ≤ 0 := d
  have c2 : 0 < ar (P e) (P (it n P e i)) (P x) := c1
  refine hx.2 e (it n P e i) (it n P e (i + 1)) he.1 (it_ext h he _).1 (it_ext h he _).1 (fun hh => hxe hh.symm) hi hi1 he0.symm (fun hh => (it_next h he i).2.1 hh.symm) he1.symm (Or.inl ⟨?_, ?_, ?_⟩)
  · have := ar_rot (P x) (P e) (P (it n P e i)); omega
  · have := ar_rot (P x) (P (it n P e i)) (P (it n P e (i + 1))); omega
  · have := ar_rot (P x) (P (it n P e (i + 1))) (P e); have := ar_swap (P e) (P (it n P e (i + 1))) (P x); omega
end Go.Proofs.Ytijgjpfbhbggdaa.Hul

namespace Go.Proofs.Ytijgjpfbhbggdaa.Pure
open Go.RowKit Go.Proofs.Ytijgjpfbhbggdaa.P Go.Proofs.YtijgjpfbhbggdaaW.PrintWords Go.Proofs.YtijgjpfbhbggdaaW.PrintLast Go.Proofs.Ytijgjpfbhbggdaa.Com
set_option linter.unusedSimpArgs false
set_option linter.unusedVariables false
set_option maxRecDepth 100000

def ptL (l : PL) (i : Nat) : Hul.Pt := (pX l (i : Int), pY l (i : Int))
theorem ar_pt (l : PL) (i j k : Nat) : Hul.ar (ptL l i) (ptL l j) (ptL l k) = arL l (i : Int) (j : Int) (k : Int) := rfl
theorem Pts.gen {l : PL} (h : Pts l) : Hul.Gen l.length (ptL l) := ⟨h.len.1, fun i j k hi hj hk hij hjk hik => by
  rw [ar_pt]
  exact h.nz i j k (by omega) (by omega) (by omega) (by omega) (by omega) (by omega) (by omega) (by omega) (by omega)⟩
theorem inT_swap {p a b c : Hul.Pt} (h : Hul.inT p a b c) : Hul.inT p b a c := by
  have e1 := Hul.ar_swap2 p a b
  have e2 := Hul.ar_swap2 p a c
  have e3 := Hul.ar_swap2 p b c
  unfold Hul.inT at *
  omega
theorem inT_rot {p a b c : Hul.Pt} (h : Hul.inT p a b c) : Hul.inT p b c a := by
  unfold Hul.inT at *
  omega
theorem alone_inT {l : PL} (h : Pts l) {p a b c : Nat} (hp : p < l.length) (ha : a < l.length) (hb : b < l.length) (hc : c < l.length) (hpa : p ≠ a) (hpb : p ≠ b) (hpc : p ≠ c) (hab : a ≠ b) (hac : a ≠ c) (hbc : b ≠ c) :
    alone (sg l) p a b c = true ↔ Hul.inT (ptL l p) (ptL l a) (ptL l b) (ptL l c) := by
  have s := fun (i j k : Nat) (hi : i < l.length) (hj : j < l.length) (hk : k < l.length) hij hjk hik => sg_cases l i j k (h.nz i j k (by omega) (by omega) (by omega) (by omega) (by omega) (by omega) hij hjk hik)
  have q1 := s a b c ha hb hc (by omega) (by omega) (by omega)
  have q2 := s p b c hp hb hc (by omega) (by omega) (by omega)
  have q3 := s p a c hp ha hc (by omega) (by omega) (by omega)
  have q4 := s p a b hp ha hb (by omega) (by omega) (by omega)
  have e0 := sum4 l p a b c
  have e1 : Hul.ar (ptL l p) (ptL l c) (ptL l a) = -arL l p a c := by rw [← ar_pt, Hul.ar_swap2]
  unfold alone Hul.inT
  rw [e1, ar_pt, ar_pt]
  simp only [Bool.and_eq_true, decide_eq_true_eq]
  omega
theorem inH_false {l : PL} (h : Pts l) {p : Nat} (hp : p < l.length) : inH l.length (sg l) (p : Int) = false ↔ Hul.ext l.length (ptL l) p := by
  unfold inH
  rw [List.any_eq_false]
  constructor
  · intro hall
    refine ⟨hp, fun a b c ha hb hc hap hbp hcp hab hbc hac hin => ?_⟩
    have asc : ∀ x y z : Nat, x < y → y < z → z < l.length → x ≠ p → y ≠ p → z ≠ p → ¬ Hul.inT (ptL l p) (ptL l x) (ptL l y) (ptL l z) := by
      intro x y z hxy hyz hz hxp hyp hzp hi
      have := hall ((x : Int), (y : Int), (z : Int)) (trips_mem.2 ⟨by omega, by omega, by omega, by omega⟩)
      refine this ?_
      unfold inAt
      have hal := (alone_inT h hp (show x < l.length by omega) (show y < l.length by omega) hz (by omega) (by omega) (by omega) (by omega) (by omega) (by omega)).2 hi
      simp only [hal, Bool.and_true, Bool.and_eq_true, decide_eq_true_eq]
      omega
    by_cases h1 : a < b
    · by_cases h2 : b < c
      · exact asc a b c h1 h2 hc hap hbp hcp hin
      · by_cases h3 : a < c
        · exact asc a c b h3 (by omega) hb hap hcp hbp (inT_swap (inT_rot (inT_rot hin)))
        · exact asc c a b (by omega) h1 hb hcp hap hbp (inT_rot (inT_rot hin))
    · by_cases h2 : a < c
      · exact asc b a c (by omega) h2 hc hbp hap hcp (inT_swap hin)
      · by_cases h3 : b < c
        · exact asc b c a h3 (by omega) ha hbp hcp hap (inT_rot hin)
        · exact asc c b a (by omega) (by omega) ha hcp hbp hap (inT_swap (inT_rot hin))
  · rintro ⟨_, hall⟩ ⟨a, b, c⟩ hm hin
    obtain ⟨h0, h1, h2, h3⟩ := trips_mem.1 hm
    obtain ⟨a, rfl⟩ := Int.eq_ofNat_of_zero_le h0
    obtain ⟨b, rfl⟩ := Int.eq_ofNat_of_zero_le (show 0 ≤ b by omega)
    obtain ⟨c, rfl⟩ := Int.eq_ofNat_of_zero_le (show 0 ≤ c by omega)
    unfold inAt at hin
    simp only [Bool.and_eq_true, decide_eq_true_eq] at hin
    obtain ⟨⟨⟨n1, n2⟩, n3⟩, hal⟩ := hin
    exact hall a b c (by omega) (by omega) (by omega) (by omega) (by omega) (by omega) (by omega) (by omega) (by omega) ((alone_inT h hp (by omega) (by omega) (by omega) (by omega) (by omega) (by omega) (by omega) (by omega) (by omega)).1 hal)
/-- Nothing stands in a table where two elements are the same. -/
theorem table_zero {n : Nat} (hn : 3 ≤ n ∧ n ≤ 7) (X : Int → Int → Int → Int) (i j k : Int) (hi : in7 i) (hj : in7 j) (hk : in7 k) (hs : i = j ∨ j = k ∨ i = k) : tabX n X (tix i j k) = 0 := by
  have key : ∀ M : List S65, (∀ t ∈ M, 0 ≤ t.f0 ∧ t.f0 < t.f1 ∧ t.f1 < t.f2 ∧ t.f2 < (n : Int)) → ∀ T : Nat → Int, T (tix i j k) = 0 → M.foldl (setX X) T (tix i j k) = 0 := by
    intro M
    induction M with
    | nil => intro _ T h; exact h
    | cons u M ih =>
      intro hM T h
      rw [List.foldl_cons]
      refine ih (fun t ht => hM t (List.mem_cons_of_mem _ ht)) _ ?_
      obtain ⟨u0, u1, u2, u3⟩ := hM u (List.mem_cons_self ..)
      have ia : in7 u.f0 := ⟨by omega, by omega⟩
      have ib : in7 u.f1 := ⟨by omega, by omega⟩
      have ic : in7 u.f2 := ⟨by omega, by omega⟩
      have ne : ∀ x y z : Int, in7 x → in7 y → in7 z → x ≠ y → y ≠ z → x ≠ z → tix i j k ≠ tix x y z := by
        intro x y z hx hy hz h1 h2 h3 e
        obtain ⟨rfl, rfl, rfl⟩ := tix_inj hi hj hk hx hy hz e
        rcases hs with e | e | e
        · exact h1 e
        · exact h2 e
        · exact h3 e
      simp only [setX, setT, upT]
      rw [if_neg (ne _ _ _ ib ia ic (by omega) (by omega) (by omega)), if_neg (ne _ _ _ ic ib ia (by omega) (by omega) (by omega)), if_neg (ne _ _ _ ia ic ib (by omega) (by omega) (by omega)), if_neg (ne _ _ _ ic ia ib (by omega) (by omega) (by omega)), if_neg (ne _ _ _ ib ic ia (by omega) (by omega) (by omega)), if_neg (ne _ _ _ ia ib ic (by omega) (by omega) (by omega))]
      exact h
  exact key _ (fun t ht => chiList_asc hn ht) _ rfl
theorem left_nxt {l : PL} (h : Pts l) {i j : Nat} (hi : i < l.length) (hj : j < l.length) (hij : i ≠ j) : leftN (tabX l.length (sg l)) (j : Int) (i : Int) l.length = 0 ↔ Hul.nxt l.length (ptL l) i j := by
  have hl := h.len
  unfold leftN
  rw [List.countP_eq_zero]
  have val : ∀ m : Nat, m < l.length → m ≠ i → m ≠ j → tabX l.length (sg l) (tix (j : Int) (i : Int) (m : Int)) = sg l j i m := fun m hm h1 h2 => table_at hl h.chi _ j i m ⟨by omega, by omega⟩ ⟨by omega, by omega⟩ ⟨by omega, by omega⟩ (by omega) (by omega) (by omega)
  have ix : ∀ m : Nat, (j : Int).toNat * 49 + (i : Int).toNat * 7 + m = tix (j : Int) (i : Int) (m : Int) := fun m => by unfold tix; simp
  simp only [List.mem_range, ix, beq_iff_eq]
  constructor
  · intro hall
    refine ⟨hj, Ne.symm hij, fun k hk hki hkj => ?_⟩
    have := hall k hk
    rw [val k hk hki hkj] at this
    rw [ar_pt]
    have c := sg_cases l j i k (h.nz j i k (by omega) (by omega) (by omega) (by omega) (by omega) (by omega) (by omega) (by omega) (by omega))
    have e := arL_s1 l i j k
    omega
  · rintro ⟨_, _, hall⟩ m hm
    by_cases h1 : m = i
    · rw [table_zero hl (sg l) j i m ⟨by omega, by omega⟩ ⟨by omega, by omega⟩ ⟨by omega, by omega⟩ (Or.inr (Or.inl (by omega)))]; decide
    · by_cases h2 : m = j
      · rw [table_zero hl (sg l) j i m ⟨by omega, by omega⟩ ⟨by omega, by omega⟩ ⟨by omega, by omega⟩ (Or.inr (Or.inr (by omega)))]; decide
      · rw [val m hm h1 h2]
        have := hall m hm h1 h2
        rw [ar_pt] at this
        have e := arL_s1 l i j m
        unfold sg
        rw [if_neg (by omega)]
        decide
end Go.Proofs.Ytijgjpfbhbggdaa.Pure

namespace Go.Proofs.Ytijgjpfbhbggdaa.Pure
open Go.RowKit Go.Proofs.Ytijgjpfbhbggdaa.P Go.Proofs.YtijgjpfbhbggdaaW.PrintWords Go.Proofs.YtijgjpfbhbggdaaW.PrintLast Go.Proofs.Ytijgjpfbhbggdaa.Com
set_option linter.unusedSimpArgs false
set_option linter.unusedVariables false
set_option maxRecDepth 100000

/-! ### there is an outermost point -/
theorem lam_sum (p a b c : Hul.Pt) : Hul.ar p b c * (a.1 - p.1) + Hul.ar p c a * (b.1 - p.1) + Hul.ar p a b * (c.1 - p.1) = 0 := by unfold Hul.ar; grind
theorem least_x (P : Nat → Hul.Pt) (m : Nat) : ∃ p, p < m + 1 ∧ ∀ k, k < m + 1 → (P p).1 ≤ (P k).1 := by
  induction m with
  | zero => exact ⟨0, by omega, fun k hk => by obtain rfl : k = 0 := by omega
                                               exact Int.le_refl _⟩
  | succ m ih =>
    obtain ⟨p, hp, h⟩ := ih
    by_cases hc : (P p).1 ≤ (P (m + 1)).1
    · refine ⟨p, by omega, fun k hk => ?_⟩
      by_cases e : k = m + 1
      · rw [e]; exact hc
      · exact h k (by omega)
    · refine ⟨m + 1, by omega, fun k hk => ?_⟩
      by_cases e : k = m + 1
      · rw [e]; exact Int.le_refl _
      · have := h k (by omega); omega
theorem ext_ex {n : Nat} {P : Nat → Hul.Pt} (h : Hul.Gen n P) : ∃ p, Hul.ext n P p := by
  have h3 := h.three
  obtain ⟨p, hp, hall⟩ := least_x P (n - 1)
  refine ⟨p, by omega, fun a b c ha hb hc hap hbp hcp hab hbc hac hin => ?_⟩
  have xa := hall a (by omega)
  have xb := hall b (by omega)
  have xc := hall c (by omega)
  have e := lam_sum (P p) (P a) (P b) (P c)
  have vert : ∀ q r : Nat, (P q).1 = (P p).1 → (P r).1 = (P p).1 → Hul.ar (P p) (P q) (P r) = 0 := by
    intro q r h1 h2
    unfold Hul.ar
    rw [h1, h2]
    simp
  have pos : ∀ {x y : Int}, 0 < x → 0 ≤ y → 0 ≤ x * y := fun hx hy => Int.mul_nonneg (Int.le_of_lt hx) hy
  have z : ∀ {x y : Int}, 0 < x → 0 ≤ y → x * y = 0 → y = 0 := fun hx hy h0 => by
    rcases Int.mul_eq_zero.1 h0 with h1 | h1
    · omega
    · exact h1
  rcases hin with ⟨i1, i2, i3⟩ | ⟨i1, i2, i3⟩
  · have p1 := pos i2 (show 0 ≤ (P a).1 - (P p).1 by omega)
    have p2 := pos i3 (show 0 ≤ (P b).1 - (P p).1 by omega)
    have p3 := pos i1 (show 0 ≤ (P c).1 - (P p).1 by omega)
    have za := z i2 (show 0 ≤ (P a).1 - (P p).1 by omega) (by omega)
    have zb := z i3 (show 0 ≤ (P b).1 - (P p).1 by omega) (by omega)
    have := vert a b (by omega) (by omega)
    omega
  · have p1 := pos (show 0 < -Hul.ar (P p) (P b) (P c) by omega) (show 0 ≤ (P a).1 - (P p).1 by omega)
    have p2 := pos (show 0 < -Hul.ar (P p) (P c) (P a) by omega) (show 0 ≤ (P b).1 - (P p).1 by omega)
    have p3 := pos (show 0 < -Hul.ar (P p) (P a) (P b) by omega) (show 0 ≤ (P c).1 - (P p).1 by omega)
    have za := z (show 0 < -Hul.ar (P p) (P b) (P c) by omega) (show 0 ≤ (P a).1 - (P p).1 by omega) (by rw [Int.neg_mul] at *; omega)
    have zb := z (show 0 < -Hul.ar (P p) (P c) (P a) by omega) (show 0 ≤ (P b).1 - (P p).1 by omega) (by rw [Int.neg_mul] at *; omega)
    have := vert a b (by omega) (by omega)
    omega
/-! ### the list of outermost points -/
def endsL (l : PL) : List Int := (ints 0 l.length).filter fun i => !inH l.length (sg l) i
theorem offL_ints (f : Int → Bool) (d : Nat) : ∀ a : Int, offL ((ints a d).map f) a = (ints a d).filter fun i => !f i := by
  induction d with
  | zero => intro a; rfl
  | succ d ih =>
    intro a
    have e : ints a (d + 1) = a :: ints (a + 1) d := rfl
    rw [e, List.map_cons, List.filter_cons]
    show (if f a = true then offL ((ints (a + 1) d).map f) (a + 1) else a :: offL ((ints (a + 1) d).map f) (a + 1)) = _
    rw [ih]
    cases f a <;> rfl
theorem ints_nodup (d : Nat) : ∀ a : Int, (ints a d).Nodup := by
  induction d with
  | zero => intro a; exact List.nodup_nil
  | succ d ih => intro a; exact List.nodup_cons.2 ⟨fun h => by have := ints_mem h; omega, ih _⟩
theorem endsL_mem {l : PL} (h : Pts l) {i : Int} : i ∈ endsL l ↔ ∃ p : Nat, i = p ∧ Hul.ext l.length (ptL l) p := by
  unfold endsL
  rw [List.mem_filter, ints_mem_iff]
  constructor
  · rintro ⟨⟨h0, h1⟩, h2⟩
    obtain ⟨p, rfl⟩ := Int.eq_ofNat_of_zero_le h0
    refine ⟨p, rfl, (inH_false h (by omega)).1 (by simpa using h2)⟩
  · rintro ⟨p, rfl, hp⟩
    have := (inH_false h hp.1).2 hp
    exact ⟨⟨by omega, by have := hp.1; omega⟩, by rw [this]; rfl⟩
theorem elements_ev {l : PL} (h : Pts l) : impl_elementsOf.f 70 (orL ((ints 0 l.length).map (inH l.length (sg l))) 0 0) = some (endsL l) := by
  have hl := h.len
  rw [elements_of _ (by rw [List.length_map, ints_len]; omega), offL_ints]
  rfl
/-- The first outermost point. -/
def firstE (l : PL) : Nat := (rd (endsL l) 0).toNat
theorem ends_pos {l : PL} (h : Pts l) : 0 < (endsL l).length := by
  obtain ⟨p, hp⟩ := ext_ex h.gen
  exact List.length_pos_of_mem ((endsL_mem h).2 ⟨p, rfl, hp⟩)
theorem rd_mem {L : List Int} {i : Int} (h0 : 0 ≤ i) (h1 : i < L.length) : rd L i ∈ L := by
  unfold rd
  exact getD_mem L i.toNat 0 (by omega)
theorem first_ext {l : PL} (h : Pts l) : Hul.ext l.length (ptL l) (firstE l) ∧ rd (endsL l) 0 = (firstE l : Int) := by
  obtain ⟨p, hp, he⟩ := (endsL_mem h).1 (rd_mem (Int.le_refl 0) (by have := ends_pos h; omega))
  unfold firstE
  rw [hp]
  exact ⟨by simpa using he, by simp⟩
noncomputable def cyc (l : PL) (k : Nat) : Int := (Hul.it l.length (ptL l) (firstE l) k : Int)
/-- The hull. -/
theorem round_ex {l : PL} (h : Pts l) : ∃ t, 0 < t ∧ t ≤ l.length ∧ cyc l t = cyc l 0 ∧ (∀ j, 0 < j → j < t → cyc l j ≠ cyc l 0) ∧ (endsL l).length = t := by
  have he := (first_ext h).1
  obtain ⟨t, h0, h1, h2, h3⟩ := Hul.it_closes h.gen he
  refine ⟨t, h0, h1, by unfold cyc; rw [h2]; rfl, fun j a b => ?_, ?_⟩
  · have := h3 j a b
    unfold cyc
    intro e
    exact this (by have : ((Hul.it l.length (ptL l) (firstE l) j : Nat) : Int) = ((firstE l : Nat) : Int) := e
                   omega)
  · have hp : (endsL l).Perm ((List.range t).map (cyc l)) := by
      refine (List.perm_ext_iff_of_nodup ((ints_nodup _ _).filter _) ?_).2 fun x => ?_
      · refine List.pairwise_map.2 (List.Pairwise.imp_of_mem ?_ (List.pairwise_lt_range (n := t)))
        intro i j hi hj hij e
        have hj := List.mem_range.1 hj
        have hb := Hul.it_back h.gen he i j (by omega) (by unfold cyc at e; omega)
        exact h3 (j - i) (by omega) (by omega) hb
      · show x ∈ endsL l ↔ _
        rw [endsL_mem h, List.mem_map]
        constructor
        · rintro ⟨p, rfl, hx⟩
          obtain ⟨j, hj, hjx⟩ := Hul.it_all h.gen he h0 h2 h3 hx
          exact ⟨j, List.mem_range.2 hj, by unfold cyc; rw [hjx]⟩
        · rintro ⟨j, _, rfl⟩
          exact ⟨_, rfl, Hul.it_ext h.gen he j⟩
    rw [hp.length_eq, List.length_map, List.length_range]
theorem cyc_ext {l : PL} (h : Pts l) (k : Nat) : Hul.ext l.length (ptL l) (Hul.it l.length (ptL l) (firstE l) k) := Hul.it_ext h.gen (first_ext h).1 k
theorem cyc_mem {l : PL} (h : Pts l) (k : Nat) : cyc l k ∈ endsL l := (endsL_mem h).2 ⟨_, rfl, cyc_ext h k⟩
theorem cyc_next {l : PL} (h : Pts l) (k : Nat) {j : Nat} (hj : j < l.length) (hne : (j : Int) ≠ cyc l k) : leftN (tabX l.length (sg l)) (j : Int) (cyc l k) l.length = 0 ↔ (j : Int) = cyc l (k + 1) := by
  have hx := cyc_ext h k
  have hn := Hul.it_next h.gen (first_ext h).1 k
  unfold cyc at hne ⊢
  rw [left_nxt h hx.1 hj (by omega)]
  constructor
  · intro h1
    have := Hul.nxt_unique h1 hn
    omega
  · intro h1
    have e : j = Hul.it l.length (ptL l) (firstE l) (k + 1) := by omega
    rw [e]
    exact hn
theorem rd_map_range (f : Nat → Int) (m : Nat) (i : Int) (h0 : 0 ≤ i) (h1 : i < m) : rd ((List.range m).map f) i = f i.toNat := by
  unfold rd
  rw [List.getD_eq_getElem?_getD, List.getElem?_map, List.getElem?_range (by omega)]
  rfl
theorem hull_loop {l : PL} (h : Pts l) {t : Nat} (ht : t ≤ l.length) (hE : (endsL l).length = t) (d : Nat) : ∀ m : Nat, 0 < m → m + d = t → Ev (fun q => impl_chi_hull.l0 q (endsL l) ((List.range m).map (cyc l)) (l.length : Int) (tabX l.length (sg l))) ((List.range t).map (cyc l), (l.length : Int), tabX l.length (sg l)) := by
  have hl := h.len
  induction d with
  | zero =>
    intro m hm hd
    obtain rfl : m = t := by omega
    refine Ev.step (f := fun _ => some ((List.range m).map (cyc l), (l.length : Int), tabX l.length (sg l))) (fun q => ?_) (Ev.now _)
    simp only [impl_chi_hull.l0]
    rw [if_neg (by rw [List.length_map, List.length_range]; omega)]
  | succ d ih =>
    intro m hm hd
    have hlen : (((List.range m).map (cyc l)).length : Int) = (m : Int) := by rw [List.length_map, List.length_range]
    have hlast : rd ((List.range m).map (cyc l)) ((m : Int) - 1) = cyc l (m - 1) := by
      rw [rd_map_range _ _ _ (by omega) (by omega)]
      congr 1
      omega
    refine Ev.step (f := fun q => impl_chi_hull.l1 q (endsL l) ((List.range m).map (cyc l)) (cyc l (m - 1)) (endsL l) ((endsL l).length : Int) 0 (l.length : Int) (tabX l.length (sg l))) (fun q => ?_) ?_
    · simp only [impl_chi_hull.l0]
      rw [hlen, if_pos (by omega), w64 (by omega) (by omega), if_pos (by omega), if_pos (by omega), hlast]
    obtain ⟨x, hx, hxe⟩ := List.getElem_of_mem (cyc_mem h m)
    have hcm : m - 1 + 1 = m := by omega
    have hround : ∀ {j : Nat}, j < l.length → (j : Int) ≠ cyc l (m - 1) → (leftN (tabX l.length (sg l)) (j : Int) (cyc l (m - 1)) l.length = 0 ↔ (j : Int) = cyc l m) := fun {j} hj hne => by
      have := cyc_next h (m - 1) hj hne
      rwa [hcm] at this
    have hne : cyc l m ≠ cyc l (m - 1) := by
      have := (Hul.it_next h.gen (first_ext h).1 (m - 1)).2.1
      rw [hcm] at this
      unfold cyc
      omega
    have hnd : (endsL l).Nodup := (ints_nodup _ _).filter _
    have rdx : ∀ i : Int, 0 ≤ i → ∀ hi : i.toNat < (endsL l).length, rd (endsL l) i = (endsL l)[i.toNat] := fun i h0 hi => by
      unfold rd; rw [List.getD_eq_getElem?_getD, List.getElem?_eq_getElem hi]; rfl
    have memE : ∀ i : Int, 0 ≤ i → i < ((endsL l).length : Int) → ∃ p : Nat, rd (endsL l) i = p ∧ p < l.length := fun i h0 h1 => by
      obtain ⟨p, hp, he⟩ := (endsL_mem h).1 (rd_mem h0 h1)
      exact ⟨p, hp, he.1⟩
    have hlf : ∀ p : Nat, p < l.length → impl_chi_left.f (l.length : Int) (tabX l.length (sg l)) (p : Int) (cyc l (m - 1)) = some (((leftN (tabX l.length (sg l)) (p : Int) (cyc l (m - 1)) l.length : Nat) : Int), (l.length : Int), tabX l.length (sg l)) := by
      intro p hp
      have := (cyc_ext h (m - 1)).1
      unfold impl_chi_left.f
      rw [if_pos ⟨⟨by omega, by omega⟩, ⟨by unfold cyc; omega, by unfold cyc; omega⟩, by omega, by omega⟩]
      rfl
    have goal : Ev (fun q => impl_chi_hull.l1 q (endsL l) ((List.range m).map (cyc l)) (cyc l (m - 1)) (endsL l) ((endsL l).length : Int) (x : Int) (l.length : Int) (tabX l.length (sg l))) ((List.range t).map (cyc l), (l.length : Int), tabX l.length (sg l)) := by
      have hrx : rd (endsL l) (x : Int) = cyc l m := by rw [rdx (x : Int) (by omega) (by simpa using hx)]; simpa using hxe
      obtain ⟨p, hp, hpn⟩ := memE (x : Int) (by omega) (by omega)
      have hpc : (p : Int) = cyc l m := by rw [← hp]; exact hrx
      refine Ev.step (f := fun q => impl_chi_hull.l0 q (endsL l) ((List.range (m + 1)).map (cyc l)) (l.length : Int) (tabX l.length (sg l))) (fun q => ?_) (ih (m + 1) (by omega) (by omega))
      simp only [impl_chi_hull.l1]
      rw [if_pos (by omega), if_pos (by omega), if_pos (by omega), hp, if_neg (by rw [hpc]; exact hne), hlf p hpn, (hround hpn (by rw [hpc]; exact hne)).2 hpc]
      simp only [Option.bind_some]
      rw [if_pos (show ((0 : Nat) : Int) = 0 from rfl), if_pos (by rw [List.length_map, List.length_range]; omega), hpc, List.range_succ, List.map_append]
      rfl
    refine upLoop (l := fun q i => impl_chi_hull.l1 q (endsL l) ((List.range m).map (cyc l)) (cyc l (m - 1)) (endsL l) ((endsL l).length : Int) i (l.length : Int) (tabX l.length (sg l))) 0 (x : Int) _ ?_ x 0 (by omega) (by omega) goal
    intro i i0 i1 hC
    obtain ⟨p, hp, hpn⟩ := memE i i0 (by omega)
    by_cases hi : (p : Int) = cyc l (m - 1)
    · refine Ev.step (f := fun q => impl_chi_hull.l1 q (endsL l) ((List.range m).map (cyc l)) (cyc l (m - 1)) (endsL l) ((endsL l).length : Int) (i + 1) (l.length : Int) (tabX l.length (sg l))) (fun q => ?_) hC
      simp only [impl_chi_hull.l1]
      rw [if_pos (by omega), if_pos i0, if_pos (by omega), hp, if_pos hi, w64 (by omega) (by omega)]
    · have hnl : ¬ leftN (tabX l.length (sg l)) (p : Int) (cyc l (m - 1)) l.length = 0 := by
        intro h0
        have e := (hround hpn hi).1 h0
        have h1 : (endsL l)[i.toNat]'(by omega) = (endsL l)[x] := by rw [hxe, ← e, ← hp, rdx i i0 (by omega)]
        exact List.pairwise_iff_getElem.1 hnd i.toNat x (by omega) hx (by omega) h1
      refine Ev.step (f := fun q => impl_chi_hull.l1 q (endsL l) ((List.range m).map (cyc l)) (cyc l (m - 1)) (endsL l) ((endsL l).length : Int) (i + 1) (l.length : Int) (tabX l.length (sg l))) (fun q => ?_) hC
      simp only [impl_chi_hull.l1]
      rw [if_pos (by omega), if_pos i0, if_pos (by omega), hp, if_neg hi, hlf p hpn]
      simp only [Option.bind_some]
      rw [if_neg (by omega), w64 (by omega) (by omega)]
theorem impl_hull_ev {l : PL} (h : Pts l) : ∃ t, 0 < t ∧ t ≤ l.length ∧ cyc l t = cyc l 0 ∧ (∀ j, 0 < j → j < t → cyc l j ≠ cyc l 0) ∧ Ev (fun k => impl_chi_hull.f k (l.length : Int) (tabX l.length (sg l))) ((List.range t).map (cyc l), (l.length : Int), tabX l.length (sg l)) := by
  have hl := h.len
  obtain ⟨t, h0, h1, h2, h3, hE⟩ := round_ex h
  refine ⟨t, h0, h1, h2, h3, ?_⟩
  refine Ev.bind0 (full_impl ⟨l.length, by omega⟩) (Ev.bind (extremeIn_ev hl h.chi) (Ev.bind (Ev.of (fun k => impl_elementsOf.mono _ k) (elements_ev h)) (Ev.iteT (by omega) ?_)))
  have := hull_loop h h1 hE (t - 1) 1 (by omega) (by omega)
  rw [show (List.range 1).map (cyc l) = [rd (endsL l) 0] by rw [(first_ext h).2]; rfl] at this
  exact this
end Go.Proofs.Ytijgjpfbhbggdaa.Pure

namespace Go.Proofs.Ytijgjpfbhbggdaa.Pure
open Go.RowKit Go.Proofs.Ytijgjpfbhbggdaa.P Go.Proofs.YtijgjpfbhbggdaaW.PrintWords Go.Proofs.YtijgjpfbhbggdaaW.PrintLast Go.Proofs.Ytijgjpfbhbggdaa.Com
set_option linter.unusedSimpArgs false
set_option linter.unusedVariables false
set_option maxRecDepth 100000

/-- All others lie to the left of the way from a to b. -/
def lftB (l : PL) (a b : Int) : Bool := (ints 0 l.length).all fun k => decide (k = a) || decide (k = b) || decide (0 < sg l a b k)
theorem l6Left_ev {l : PL} (h : Pts l) {a b : Int} (ha : 0 ≤ a ∧ a < (l.length : Int)) (hb : 0 ≤ b ∧ b < (l.length : Int)) (hab : a ≠ b) : Ev (fun q => spec_l6Left.f q (l.length : Int) (sgText l.length (sg l)) (fullM l.length) a b) (lftB l a b) := by
  have hl := h.len
  refine rangeLoop (σ := Unit) (l := fun q _ i => spec_l6Left.l0 q (fullM l.length) a b i (l.length : Int) (sgText l.length (sg l))) (l.length : Int) (T := allT _) (allT_mono _) (C := fun _ r => r = true) 0 ?_ ?_ l.length 0 (by omega) (by omega) () _ (allT_done _ _ _ rfl)
  · intro _ k k0 k1 r hT
    by_cases e1 : k = a
    · have hC : Ev (fun q => spec_l6Left.l0 q (fullM l.length) a b (k + 1) (l.length : Int) (sgText l.length (sg l))) r := by simpa [allT, e1] using hT
      refine Ev.step (f := fun q => spec_l6Left.l0 q (fullM l.length) a b (k + 1) (l.length : Int) (sgText l.length (sg l))) (fun q => ?_) hC
      simp only [spec_l6Left.l0]
      rw [if_pos k1, if_pos e1, w64 (by omega) (by omega)]
    by_cases e2 : k = b
    · have hC : Ev (fun q => spec_l6Left.l0 q (fullM l.length) a b (k + 1) (l.length : Int) (sgText l.length (sg l))) r := by simpa [allT, e2] using hT
      refine Ev.step (f := fun q => spec_l6Left.l0 q (fullM l.length) a b (k + 1) (l.length : Int) (sgText l.length (sg l))) (fun q => ?_) hC
      simp only [spec_l6Left.l0]
      rw [if_pos k1, if_neg e1, if_pos e2, w64 (by omega) (by omega)]
    refine Ev.step (f := fun q => (spec_l3At.f q (l.length : Int) (sgText l.length (sg l)) a b k).bind fun t103 => (if t103 < 0 then (some false) else (spec_l6Left.l0 q (fullM l.length) a b (k + 1) (l.length : Int) (sgText l.length (sg l))))) (fun q => ?_) (Ev.bind (l3At_ev hl h.chi ha hb ⟨k0, k1⟩ hab (by omega) (by omega)) ?_)
    · simp only [spec_l6Left.l0]
      rw [if_pos k1, if_neg e1, if_neg e2, has_full hl k0 k1, w64 (by omega) (by omega)]
      rfl
    · rcases mem_sg h.chi ha hb ⟨k0, k1⟩ hab (show b ≠ k by omega) (show a ≠ k by omega) with e | e
      · rw [e]
        refine Ev.iteF (by omega) ?_
        simpa [allT, e1, e2, e] using hT
      · rw [e]
        have : r = false := by simpa [allT, e1, e2, e] using hT
        subst this
        exact Ev.iteT (by omega) (Ev.now _)
  · intro _ r hC
    rw [show r = true from hC]
    refine Ev.step (f := fun q => some true) (fun q => ?_) (Ev.now _)
    simp only [spec_l6Left.l0]
    rw [if_neg (by omega)]
theorem lftB_nxt {l : PL} (h : Pts l) {i j : Nat} (hi : i < l.length) (hj : j < l.length) (hij : i ≠ j) : lftB l (i : Int) (j : Int) = true ↔ Hul.nxt l.length (ptL l) i j := by
  unfold lftB
  rw [List.all_eq_true]
  constructor
  · intro hall
    refine ⟨hj, Ne.symm hij, fun k hk hki hkj => ?_⟩
    have := hall (k : Int) (ints_mem_iff.2 ⟨by omega, by omega⟩)
    simp only [Bool.or_eq_true, decide_eq_true_eq] at this
    have c := sg_cases l i j k (h.nz i j k (by omega) (by omega) (by omega) (by omega) (by omega) (by omega) (by omega) (by omega) (by omega))
    rw [ar_pt]
    omega
  · rintro ⟨_, _, hall⟩ k hk
    have hk := ints_mem_iff.1 hk
    obtain ⟨k, rfl⟩ := Int.eq_ofNat_of_zero_le hk.1
    simp only [Bool.or_eq_true, decide_eq_true_eq]
    by_cases e1 : k = i
    · left; left; omega
    by_cases e2 : k = j
    · left; right; omega
    right
    have := hall k (by omega) e1 e2
    rw [ar_pt] at this
    unfold sg
    rw [if_pos this]
    decide
theorem lftB_cyc {l : PL} (h : Pts l) (k : Nat) {j : Nat} (hj : j < l.length) (hne : (j : Int) ≠ cyc l k) : lftB l (cyc l k) (j : Int) = true ↔ (j : Int) = cyc l (k + 1) := by
  have hx := cyc_ext h k
  have hn := Hul.it_next h.gen (first_ext h).1 k
  unfold cyc at hne ⊢
  rw [lftB_nxt h hx.1 hj (by omega)]
  constructor
  · intro h1
    have := Hul.nxt_unique h1 hn
    omega
  · intro h1
    have e : j = Hul.it l.length (ptL l) (firstE l) (k + 1) := by omega
    rw [e]
    exact hn
abbrev endM (l : PL) : Int := addL ((ints 0 l.length).map (inH l.length (sg l))) 0 0
theorem has_end {l : PL} (h : Pts l) {k : Int} (k0 : 0 ≤ k) (k1 : k < (l.length : Int)) : spec_l6Has.f (endM l) k = some (!inH l.length (sg l) k) := by
  have hl := h.len
  have hlen : ((ints 0 l.length).map (inH l.length (sg l))).length = l.length := by rw [List.length_map, ints_len]
  rw [has_of _ (by omega) k k0 (by omega), getD_map (inH l.length (sg l)) _ _ 0 _ (by rw [ints_len]; omega)]
  congr 3
  have : ∀ (d : Nat) (a : Int) (m : Nat), m < d → (ints a d).getD m 0 = a + m := by
    intro d
    induction d with
    | zero => intro a m hm; omega
    | succ d ih =>
      intro a m hm
      have e : ints a (d + 1) = a :: ints (a + 1) d := rfl
      rw [e]
      cases m with
      | zero => simp
      | succ m => rw [List.getD_cons_succ, ih (a + 1) m (by omega)]; omega
  rw [this _ _ _ (by omega)]
  omega
/-- One round of the search for what follows. -/
theorem next_loop {l : PL} (h : Pts l) (out : List Int) (x7 : Int) (k : Nat) (r : List Int) (hC : Ev (fun q => spec_HullOf.l2 q out (fullM l.length) (endM l) (cyc l k) x7 (cyc l (k + 1)) (l.length : Int) (l.length : Int) (sgText l.length (sg l))) r) :
    Ev (fun q => spec_HullOf.l2 q out (fullM l.length) (endM l) (cyc l k) x7 (-1) 0 (l.length : Int) (sgText l.length (sg l))) r := by
  have hl := h.len
  have hk := (cyc_ext h k).1
  have hk1 := (cyc_ext h (k + 1)).1
  have ck : 0 ≤ cyc l k ∧ cyc l k < (l.length : Int) := by unfold cyc; omega
  have ck1 : 0 ≤ cyc l (k + 1) ∧ cyc l (k + 1) < (l.length : Int) := by unfold cyc; omega
  have hne : cyc l (k + 1) ≠ cyc l k := by
    have := (Hul.it_next h.gen (first_ext h).1 k).2.1
    unfold cyc
    omega
  have pass : ∀ (x8 i : Int), 0 ≤ i → i < (l.length : Int) → i ≠ cyc l (k + 1) → Ev (fun q => spec_HullOf.l2 q out (fullM l.length) (endM l) (cyc l k) x7 x8 (i + 1) (l.length : Int) (sgText l.length (sg l))) r → Ev (fun q => spec_HullOf.l2 q out (fullM l.length) (endM l) (cyc l k) x7 x8 i (l.length : Int) (sgText l.length (sg l))) r := by
    intro x8 i i0 i1 hi hE
    by_cases e1 : i = cyc l k
    · refine Ev.step (f := fun q => spec_HullOf.l2 q out (fullM l.length) (endM l) (cyc l k) x7 x8 (i + 1) (l.length : Int) (sgText l.length (sg l))) (fun q => ?_) hE
      simp only [spec_HullOf.l2]
      rw [if_pos i1, if_pos e1, w64 (by omega) (by omega)]
    cases hin : inH l.length (sg l) i with
    | true =>
      refine Ev.step (f := fun q => spec_HullOf.l2 q out (fullM l.length) (endM l) (cyc l k) x7 x8 (i + 1) (l.length : Int) (sgText l.length (sg l))) (fun q => ?_) hE
      simp only [spec_HullOf.l2]
      rw [if_pos i1, if_neg e1, has_end h i0 i1, hin, w64 (by omega) (by omega)]
      rfl
    | false =>
      obtain ⟨p, rfl⟩ := Int.eq_ofNat_of_zero_le i0
      have hlf : lftB l (cyc l k) (p : Int) = false := by
        rw [Bool.eq_false_iff]
        intro ht
        exact hi ((lftB_cyc h k (by omega) e1).1 ht)
      refine Ev.step (f := fun q => (spec_l6Left.f q (l.length : Int) (sgText l.length (sg l)) (fullM l.length) (cyc l k) (p : Int)).bind fun t113 => (if t113 = true then (spec_HullOf.l2 q out (fullM l.length) (endM l) (cyc l k) x7 (p : Int) ((p : Int) + 1) (l.length : Int) (sgText l.length (sg l))) else (spec_HullOf.l2 q out (fullM l.length) (endM l) (cyc l k) x7 x8 ((p : Int) + 1) (l.length : Int) (sgText l.length (sg l))))) (fun q => ?_) (Ev.bind (l6Left_ev h ck ⟨i0, i1⟩ (Ne.symm e1)) (by rw [hlf]; exact Ev.iteF (by decide) hE))
      simp only [spec_HullOf.l2]
      rw [if_pos i1, if_neg e1, has_end h i0 i1, hin, w64 (by omega) (by omega)]
      rfl
  refine upLoop (l := fun q i => spec_HullOf.l2 q out (fullM l.length) (endM l) (cyc l k) x7 (-1) i (l.length : Int) (sgText l.length (sg l))) 0 (cyc l (k + 1)) r (fun i i0 i1 hE => pass (-1) i i0 (by omega) (by omega) hE) (cyc l (k + 1)).toNat 0 (by omega) (by omega) ?_
  have hin : inH l.length (sg l) (cyc l (k + 1)) = false := (inH_false h hk1).2 (cyc_ext h (k + 1))
  have hlf : lftB l (cyc l k) (cyc l (k + 1)) = true := (lftB_cyc h k hk1 hne).2 rfl
  refine Ev.step (f := fun q => (spec_l6Left.f q (l.length : Int) (sgText l.length (sg l)) (fullM l.length) (cyc l k) (cyc l (k + 1))).bind fun t113 => (if t113 = true then (spec_HullOf.l2 q out (fullM l.length) (endM l) (cyc l k) x7 (cyc l (k + 1)) (cyc l (k + 1) + 1) (l.length : Int) (sgText l.length (sg l))) else (spec_HullOf.l2 q out (fullM l.length) (endM l) (cyc l k) x7 (-1) (cyc l (k + 1) + 1) (l.length : Int) (sgText l.length (sg l))))) (fun q => ?_) (Ev.bind (l6Left_ev h ck ck1 (Ne.symm hne)) ?_)
  · simp only [spec_HullOf.l2]
    rw [if_pos ck1.2, if_neg hne, has_end h ck1.1 ck1.2, hin, w64 (by omega) (by omega)]
    rfl
  · rw [hlf]
    refine Ev.iteT rfl ?_
    exact upLoop (l := fun q i => spec_HullOf.l2 q out (fullM l.length) (endM l) (cyc l k) x7 (cyc l (k + 1)) i (l.length : Int) (sgText l.length (sg l))) (cyc l (k + 1) + 1) (l.length : Int) r (fun i i0 i1 hE => pass _ i (by omega) i1 (by omega) hE) ((l.length : Int) - (cyc l (k + 1) + 1)).toNat _ (by omega) (by omega) hC
theorem hullOf_loop {l : PL} (h : Pts l) {t : Nat} (h0 : 0 < t) (ht : t ≤ l.length) (hb : cyc l t = cyc l 0) (hj : ∀ j, 0 < j → j < t → cyc l j ≠ cyc l 0) (d : Nat) : ∀ m : Nat, m + d + 1 = t → Ev (fun q => spec_HullOf.l1 q ((List.range m).map (cyc l)) (fullM l.length) (endM l) (cyc l m) (m : Int) (l.length : Int) (sgText l.length (sg l))) ((List.range t).map (cyc l)) := by
  have hl := h.len
  induction d with
  | zero =>
    intro m hd
    obtain rfl : m + 1 = t := by omega
    refine Ev.step (f := fun q => spec_HullOf.l2 q ((List.range (m + 1)).map (cyc l)) (fullM l.length) (endM l) (cyc l m) (m : Int) (-1) 0 (l.length : Int) (sgText l.length (sg l))) (fun q => ?_) (next_loop h _ (m : Int) m _ ?_)
    · simp only [spec_HullOf.l1]
      rw [if_pos (by omega), if_pos (by rw [List.length_map, List.length_range]; omega), List.range_succ, List.map_append]
      rfl
    · refine Ev.step (f := fun _ => some ((List.range (m + 1)).map (cyc l))) (fun q => ?_) (Ev.now _)
      simp only [spec_HullOf.l2]
      rw [if_neg (by omega), if_pos (by rw [List.length_map, List.length_range]; omega), rd_map_range _ _ _ (by omega) (by omega), if_pos (by exact hb)]
  | succ d ih =>
    intro m hd
    refine Ev.step (f := fun q => spec_HullOf.l2 q ((List.range (m + 1)).map (cyc l)) (fullM l.length) (endM l) (cyc l m) (m : Int) (-1) 0 (l.length : Int) (sgText l.length (sg l))) (fun q => ?_) (next_loop h _ (m : Int) m _ ?_)
    · simp only [spec_HullOf.l1]
      rw [if_pos (by omega), if_pos (by rw [List.length_map, List.length_range]; omega), List.range_succ, List.map_append]
      rfl
    · have hx : ¬ cyc l (m + 1) < 0 := by unfold cyc; omega
      refine Ev.step (f := fun q => spec_HullOf.l1 q ((List.range (m + 1)).map (cyc l)) (fullM l.length) (endM l) (cyc l (m + 1)) ((m + 1 : Nat) : Int) (l.length : Int) (sgText l.length (sg l))) (fun q => ?_) (ih (m + 1) (by omega))
      simp only [spec_HullOf.l2]
      rw [if_neg (by omega), if_pos (by rw [List.length_map, List.length_range]; omega), rd_map_range _ _ _ (by omega) (by omega), if_neg (by exact hj (m + 1) (by omega) (by omega)), if_neg hx, w64 (by omega) (by omega)]
      rfl
theorem ints_sorted (d : Nat) : ∀ a : Int, (ints a d).Pairwise (· < ·) := by
  induction d with
  | zero => intro a; exact List.Pairwise.nil
  | succ d ih => intro a; exact List.pairwise_cons.2 ⟨fun b hb => by have := ints_mem hb; omega, ih _⟩
theorem first_least {l : PL} (h : Pts l) {i : Int} (hi : i ∈ endsL l) : (firstE l : Int) ≤ i := by
  obtain ⟨x, hx, hxe⟩ := List.getElem_of_mem hi
  have h0 := ends_pos h
  have hf : (endsL l)[0] = (firstE l : Int) := by
    rw [← (first_ext h).2]
    unfold rd
    rw [List.getD_eq_getElem?_getD, List.getElem?_eq_getElem (by simpa using h0)]
    rfl
  by_cases e : x = 0
  · subst e; rw [← hxe, hf]; exact Int.le_refl _
  · have := List.pairwise_iff_getElem.1 ((ints_sorted l.length 0).filter fun i => !inH l.length (sg l) i) 0 x h0 hx (by omega)
    have e2 : (endsL l)[0] < (endsL l)[x] := this
    rw [hf, hxe] at e2
    omega
theorem HullOf_ev {l : PL} (h : Pts l) {t : Nat} (h0 : 0 < t) (ht : t ≤ l.length) (hb : cyc l t = cyc l 0) (hj : ∀ j, 0 < j → j < t → cyc l j ≠ cyc l 0) : Ev (fun k => spec_HullOf.f k (l.length : Int) (sgText l.length (sg l))) ((List.range t).map (cyc l)) := by
  have hl := h.len
  obtain ⟨f1, f2⟩ := full_spec ⟨l.length, by omega⟩
  have f2' : wrap64 ((shl .i64 1 (IntKind.u64.wrap (l.length : Int))) - 1) = fullM l.length := f2
  refine Ev.bind0 rfl (Ev.bind (IsAcyclic_ev hl h.ord) (Ev.iteT rfl (Ev.iteT f1 ?_)))
  simp only [f2']
  refine Ev.bind (l6Extreme_ev hl h.chi) ?_
  have he := (first_ext h).1
  refine upLoop (l := fun q i => spec_HullOf.l0 q [] (fullM l.length) (endM l) i (l.length : Int) (sgText l.length (sg l))) 0 (firstE l : Int) _ ?_ (firstE l) 0 (by omega) (by omega) ?_
  · intro i i0 i1 hE
    have hin : inH l.length (sg l) i = true := by
      cases hh : inH l.length (sg l) i with
      | true => rfl
      | false =>
        have := first_least h (i := i) (by unfold endsL; rw [List.mem_filter, ints_mem_iff, hh]; exact ⟨⟨i0, by have := he.1; omega⟩, rfl⟩)
        omega
    refine Ev.step (f := fun q => spec_HullOf.l0 q [] (fullM l.length) (endM l) (i + 1) (l.length : Int) (sgText l.length (sg l))) (fun q => ?_) hE
    simp only [spec_HullOf.l0]
    rw [has_end h i0 (by have := he.1; omega), hin, w64 (by have := he.1; omega) (by have := he.1; omega)]
    rfl
  · have hin : inH l.length (sg l) (firstE l : Int) = false := (inH_false h he.1).2 he
    refine Ev.step (f := fun q => spec_HullOf.l1 q [] (fullM l.length) (endM l) (cyc l 0) 0 (l.length : Int) (sgText l.length (sg l))) (fun q => ?_) (hullOf_loop h h0 ht hb hj (t - 1) 0 (by omega))
    simp only [spec_HullOf.l0]
    rw [has_end h (by omega) (by have := he.1; omega), hin]
    rfl
end Go.Proofs.Ytijgjpfbhbggdaa.Pure

namespace Go.Proofs.Ytijgjpfbhbggdaa.Pure
open Go.RowKit Go.Proofs.Ytijgjpfbhbggdaa.P Go.Proofs.YtijgjpfbhbggdaaW.PrintWords Go.Proofs.YtijgjpfbhbggdaaW.PrintLast Go.Proofs.Ytijgjpfbhbggdaa.Com
set_option linter.unusedSimpArgs false
set_option linter.unusedVariables false
set_option maxRecDepth 100000

def pAt (l : PL) (i : Int) : S25 := ⟨pX l i, pY l i⟩
theorem rd_getD (L : List Int) (i : Int) : rd L i = L.getD i.toNat 0 := rfl
theorem hullPts_loop (l : PL) (L : List Int) (hL : ∀ x ∈ L, 0 ≤ x ∧ x < (l.length : Int)) (h7 : L.length ≤ 7) : Ev (fun q => impl_hullPoints.l0 q l [] L (L.length : Int) 0) (L.map (pAt l)) := by
  refine listLoop0 (l := fun q s i => impl_hullPoints.l0 q l s L (L.length : Int) i) L 0 (pushT_mono fun x => some (pAt l x)) (C := fun s r => r = s) ?_ ?_ [] _ (pushT_fold _ _ _ [] _ (by simp; omega) ?_)
  · intro s i i0 i1 r hT
    obtain ⟨hs, hC⟩ := pushT_some hT rfl
    have hm := hL _ (getD_mem L i.toNat 0 (by omega))
    rw [← rd_getD] at hm hC
    refine Ev.step (f := fun q => impl_hullPoints.l0 q l (s ++ [pAt l (rd L i)]) L (L.length : Int) (i + 1)) (fun q => ?_) hC
    simp only [impl_hullPoints.l0]
    rw [if_pos i1, if_pos i0, if_pos i1, if_pos hm.1, if_pos hm.2, if_pos (by omega), w64 (by omega) (by omega)]
    rfl
  · intro s r hC
    rw [show r = s from hC]
    refine Ev.step (f := fun q => some s) (fun q => ?_) (Ev.now _)
    simp only [impl_hullPoints.l0]
    rw [if_neg (by omega)]
  · show _ = [] ++ List.filterMap (some ∘ pAt l) L
    rw [List.filterMap_eq_map, List.nil_append]
theorem l28_loop (l : PL) (L : List Int) (hL : ∀ x ∈ L, 0 ≤ x ∧ x < (l.length : Int)) (h7 : L.length ≤ 7) : Ev (fun q => spec_l28Hull.l0 q l [] L 0) (L.map (pAt l)) := by
  refine listLoop0 (l := fun q s i => spec_l28Hull.l0 q l s L i) L 0 (pushT_mono fun x => some (pAt l x)) (C := fun s r => r = s) ?_ ?_ [] _ (pushT_fold _ _ _ [] _ (by simp; omega) ?_)
  · intro s i i0 i1 r hT
    obtain ⟨hs, hC⟩ := pushT_some hT rfl
    have hm := hL _ (getD_mem L i.toNat 0 (by omega))
    rw [← rd_getD] at hm hC
    refine Ev.step (f := fun q => spec_l28Hull.l0 q l (s ++ [pAt l (rd L i)]) L (i + 1)) (fun q => ?_) hC
    simp only [spec_l28Hull.l0]
    rw [if_pos i1, if_pos i0, if_pos hm.1, if_pos hm.2, if_pos (by omega), w64 (by omega) (by omega)]
    rfl
  · intro s r hC
    rw [show r = s from hC]
    refine Ev.step (f := fun q => some s) (fun q => ?_) (Ev.now _)
    simp only [spec_l28Hull.l0]
    rw [if_neg (by omega)]
  · show _ = [] ++ List.filterMap (some ∘ pAt l) L
    rw [List.filterMap_eq_map, List.nil_append]
/-- One list on both sides; the round of what follows. -/
theorem hull_both {l : PL} (h : Pts l) : ∃ t, 0 < t ∧ t ≤ l.length ∧ cyc l t = cyc l 0 ∧ (∀ j, 0 < j → j < t → cyc l j ≠ cyc l 0) ∧ Ev (fun k => impl_hullPoints.f k l) ((List.range t).map fun k => pAt l (cyc l k)) ∧ Ev (fun k => spec_l28Hull.f k l) ((List.range t).map fun k => pAt l (cyc l k)) := by
  have hl := h.len
  obtain ⟨t, h0, ht, hb, hj, hi⟩ := impl_hull_ev h
  have hm : ∀ x ∈ (List.range t).map (cyc l), 0 ≤ x ∧ x < (l.length : Int) := fun x hx => by
    obtain ⟨k, _, rfl⟩ := List.mem_map.1 hx
    have := (cyc_ext h k).1
    unfold cyc
    omega
  have h7 : ((List.range t).map (cyc l)).length ≤ 7 := by rw [List.length_map, List.length_range]; omega
  have e : ((List.range t).map (cyc l)).map (pAt l) = (List.range t).map fun k => pAt l (cyc l k) := by rw [List.map_map]; rfl
  refine ⟨t, h0, ht, hb, hj, ?_, ?_⟩
  · rw [← e]
    exact Ev.bind (impl_SignsOf_ev l h) (Ev.bind0 (impl_tableOf_eq hl h.chi) (Ev.bind hi (hullPts_loop l _ hm h7)))
  · rw [← e]
    exact Ev.bind (spec_SignsOf_ev l h) (Ev.bind (HullOf_ev h h0 ht hb hj) (l28_loop l _ hm h7))
end Go.Proofs.Ytijgjpfbhbggdaa.Pure

namespace Go.Proofs.Ytijgjpfbhbggdaa.Hul
set_option linter.unusedSimpArgs false
set_option linter.unusedVariables false
/-! ### what a number divides -/
end Go.Proofs.Ytijgjpfbhbggdaa.Hul

namespace Go.Proofs.Ytijgjpfbhbggdaa.Hul
set_option linter.unusedSimpArgs false
set_option linter.unusedVariables false
/-- A box of the grid. -/
structure Box where
  x0 : Int
  w : Nat
  y0 : Int
  h : Nat
def Box.has (B : Box) (p : Pt) : Prop := B.x0 ≤ p.1 ∧ p.1 < B.x0 + B.w ∧ B.y0 ≤ p.2 ∧ p.2 < B.y0 + B.h
def gd (p q : Pt) : Int := (Int.gcd (q.1 - p.1) (q.2 - p.2) : Int)
def inner (a b c z : Pt) : Prop := 0 < ar a b z ∧ 0 < ar b c z ∧ 0 < ar c a z
theorem bary_x (a b c z : Pt) : z.1 * ar a b c = a.1 * ar b c z + b.1 * ar c a z + c.1 * ar a b z := by unfold ar; grind
theorem bary_y (a b c z : Pt) : z.2 * ar a b c = a.2 * ar b c z + b.2 * ar c a z + c.2 * ar a b z := by unfold ar; grind
theorem ar_sum3 (a b c z : Pt) : ar b c z + ar c a z + ar a b z = ar a b c := by unfold ar; grind
theorem side1 (a b c z : Pt) : ar b c z * (b.1 - a.1) = ar a b z * (c.1 - b.1) + ar a b c * (b.1 - z.1) := by unfold ar; grind
theorem side2 (a b c z : Pt) : ar c a z * (b.1 - a.1) = ar a b z * (a.1 - c.1) + ar a b c * (z.1 - a.1) := by unfold ar; grind
/-! ### any triangle: turned over, and begun at another corner -/
/-! ### the points of a side -/
def seg (p q z : Pt) : Prop := ar p q z = 0 ∧ ((p.1 < z.1 ∧ z.1 < q.1) ∨ (q.1 < z.1 ∧ z.1 < p.1) ∨ (p.1 = q.1 ∧ ((p.2 < z.2 ∧ z.2 < q.2) ∨ (q.2 < z.2 ∧ z.2 < p.2))))
/-! ### the polygon -/
/-- Corners 0 .. m; each side sees all other corners to its left. -/
structure Poly (c : Nat → Pt) (m : Nat) : Prop where
  two : 2 ≤ m
  left : ∀ i j, i < m → j ≤ m → j ≠ i → j ≠ i + 1 → 0 < ar (c i) (c (i + 1)) (c j)
def inP (c : Nat → Pt) (m : Nat) (z : Pt) : Prop := (∀ i, i < m → 0 < ar (c i) (c (i + 1)) z) ∧ 0 < ar (c m) (c 0) z
theorem fan (c : Nat → Pt) (z : Pt) (h1 : 0 < ar (c 0) (c 1) z) : ∀ t, 1 ≤ t → ar (c 0) (c t) z ≤ 0 → ∃ i, 1 ≤ i ∧ i < t ∧ 0 < ar (c 0) (c i) z ∧ ar (c 0) (c (i + 1)) z ≤ 0 := by
  intro t
  induction t with
  | zero => omega
  | succ t ih =>
    intro _ h2
    by_cases e0 : t = 0
    · subst e0; have : 0 < ar (c 0) (c (0 + 1)) z := h1; omega
    · rcases Int.lt_or_le 0 (ar (c 0) (c t) z) with hp | hn
      · exact ⟨t, by omega, by omega, hp, h2⟩
      · obtain ⟨i, a, b, q⟩ := ih (by omega) hn
        exact ⟨i, a, by omega, q⟩
end Go.Proofs.Ytijgjpfbhbggdaa.Hul

namespace Go.Proofs.Ytijgjpfbhbggdaa.Hul
/-- What lies in a polygon lies in its box. -/
theorem inP_has {B : Box} {c : Nat → Pt} {m : Nat} (h : Poly c m) (hB : ∀ i, B.has (c i)) {z : Pt} (hz : inP c m z) : B.has z := by
  obtain ⟨h1, h2⟩ := hz
  have hm := h.two
  have sw := ar_swap (c 0) (c m) z
  obtain ⟨i, i1, im, f1, f2⟩ := fan c z (h1 0 (by omega)) m (by omega) (by omega)
  have f3 := h1 i im
  have hD : 0 < ar (c 0) (c i) (c (i + 1)) := by
    have := h.left i 0 (by omega) (by omega) (by omega) (by omega)
    rw [ar_rot] at this
    exact this
  have f2' : 0 ≤ ar (c (i + 1)) (c 0) z := by rw [ar_swap]; omega
  have bx := bary_x (c 0) (c i) (c (i + 1)) z
  have bY := bary_y (c 0) (c i) (c (i + 1)) z
  have sm := ar_sum3 (c 0) (c i) (c (i + 1)) z
  have b0 := hB 0
  have b1 := hB i
  have b2 := hB (i + 1)
  have key : ∀ (lo hi v0 v1 v2 v : Int), lo ≤ v0 → lo ≤ v1 → lo ≤ v2 → v0 ≤ hi → v1 ≤ hi → v2 ≤ hi → v * ar (c 0) (c i) (c (i + 1)) = v0 * ar (c i) (c (i + 1)) z + v1 * ar (c (i + 1)) (c 0) z + v2 * ar (c 0) (c i) z → lo ≤ v ∧ v ≤ hi := by
    intro lo hi v0 v1 v2 v a0 a1 a2 e0 e1 e2 e
    generalize ar (c i) (c (i + 1)) z = x at *
    generalize ar (c (i + 1)) (c 0) z = y at *
    generalize ar (c 0) (c i) z = w at *
    generalize ar (c 0) (c i) (c (i + 1)) = D at *
    have m0 := Int.mul_nonneg (show 0 ≤ v0 - lo by omega) (Int.le_of_lt f3)
    have m1 := Int.mul_nonneg (show 0 ≤ v1 - lo by omega) f2'
    have m2 := Int.mul_nonneg (show 0 ≤ v2 - lo by omega) (Int.le_of_lt f1)
    have n0 := Int.mul_nonneg (show 0 ≤ hi - v0 by omega) (Int.le_of_lt f3)
    have n1 := Int.mul_nonneg (show 0 ≤ hi - v1 by omega) f2'
    have n2 := Int.mul_nonneg (show 0 ≤ hi - v2 by omega) (Int.le_of_lt f1)
    have lD : lo * D = lo * x + lo * y + lo * w := by rw [← sm]; grind
    have hD' : hi * D = hi * x + hi * y + hi * w := by rw [← sm]; grind
    constructor
    · exact Int.le_of_mul_le_mul_right (show lo * D ≤ v * D by grind) hD
    · exact Int.le_of_mul_le_mul_right (show v * D ≤ hi * D by grind) hD
  unfold Box.has at *
  have kx := key B.x0 (B.x0 + B.w - 1) _ _ _ z.1 (by omega) (by omega) (by omega) (by omega) (by omega) (by omega) bx
  have ky := key B.y0 (B.y0 + B.h - 1) _ _ _ z.2 (by omega) (by omega) (by omega) (by omega) (by omega) (by omega) bY
  omega
end Go.Proofs.Ytijgjpfbhbggdaa.Hul
namespace Go.Proofs.Ytijgjpfbhbggdaa.Pure
open Go.RowKit Go.Proofs.Ytijgjpfbhbggdaa.P Go.Proofs.YtijgjpfbhbggdaaW.PrintWords Go.Proofs.YtijgjpfbhbggdaaW.PrintLast Go.Proofs.Ytijgjpfbhbggdaa.Com
set_option linter.unusedSimpArgs false
set_option linter.unusedVariables false
/-- The corners of the hull. -/
noncomputable def cP (l : PL) (k : Nat) : Hul.Pt := ptL l (Hul.it l.length (ptL l) (firstE l) k)
theorem poly_of {l : PL} (h : Pts l) {t : Nat} (h0 : 0 < t) (hb : cyc l t = cyc l 0) (hj : ∀ j, 0 < j → j < t → cyc l j ≠ cyc l 0) : 3 ≤ t ∧ Hul.Poly (cP l) (t - 1) := by
  have he := (first_ext h).1
  have hl := h.len
  have hb' : Hul.it l.length (ptL l) (firstE l) t = firstE l := by
    unfold cyc at hb
    have : Hul.it l.length (ptL l) (firstE l) 0 = firstE l := rfl
    omega
  have hj' : ∀ j, 0 < j → j < t → Hul.it l.length (ptL l) (firstE l) j ≠ firstE l := fun j a b e => hj j a b (by unfold cyc; rw [e]; rfl)
  have nx := fun k => Hul.it_next h.gen he k
  have ne : ∀ i j, i < t → j < t → i ≠ j → Hul.it l.length (ptL l) (firstE l) i ≠ Hul.it l.length (ptL l) (firstE l) j := by
    intro i j hi hjt hij e
    rcases Nat.lt_or_ge i j with hlt | hge
    · exact hj' (j - i) (by omega) (by omega) (Hul.it_back h.gen he i j (by omega) e)
    · exact hj' (i - j) (by omega) (by omega) (Hul.it_back h.gen he j i (by omega) e.symm)
  have t1 : t ≠ 1 := by rintro rfl; exact (nx 0).2.1 hb'
  have t2 : t ≠ 2 := by
    rintro rfl
    have n0 := nx 0
    have n1 := nx 1
    rw [show (1 : Nat) + 1 = 2 from rfl, hb'] at n1
    have e0 : Hul.it l.length (ptL l) (firstE l) 0 = firstE l := rfl
    rw [e0] at n0
    rw [show (0 : Nat) + 1 = 1 from rfl] at n0
    obtain ⟨k, hk, k0, k1⟩ : ∃ k, k < l.length ∧ k ≠ firstE l ∧ k ≠ Hul.it l.length (ptL l) (firstE l) 1 := by
      by_cases a0 : (0 ≠ firstE l ∧ 0 ≠ Hul.it l.length (ptL l) (firstE l) 1)
      · exact ⟨0, by omega, a0.1, a0.2⟩
      · by_cases a1 : (1 ≠ firstE l ∧ 1 ≠ Hul.it l.length (ptL l) (firstE l) 1)
        · exact ⟨1, by omega, a1.1, a1.2⟩
        · exact ⟨2, by omega, by omega, by omega⟩
    have p0 := n0.2.2 k hk k0 k1
    have p1 := n1.2.2 k hk k1 k0
    rw [Hul.ar_swap] at p1
    omega
  refine ⟨by omega, by omega, fun i j hi hjt hji hji1 => ?_⟩
  exact (nx i).2.2 _ (Hul.it_ext h.gen he j).1 (ne j i (by omega) (by omega) hji) (ne j (i + 1) (by omega) (by omega) hji1)
/-- The box of all points that are allowed. -/
def box50 : Hul.Box := ⟨-50, 101, -50, 101⟩
theorem cP_has {l : PL} (h : Pts l) (k : Nat) : box50.has (cP l k) := by
  have := (cyc_ext h k).1
  have f := h.fit (Hul.it l.length (ptL l) (firstE l) k : Int) (by omega) (by omega)
  simp only [fits50, Bool.and_eq_true, inB_iff] at f
  show -50 ≤ pX l _ ∧ pX l _ < -50 + ((101 : Nat) : Int) ∧ -50 ≤ pY l _ ∧ pY l _ < -50 + ((101 : Nat) : Int)
  unfold pX pY
  omega
theorem cP_round {l : PL} {t : Nat} (hb : cyc l t = cyc l 0) : cP l t = cP l 0 := by
  unfold cyc at hb
  unfold cP
  rw [show Hul.it l.length (ptL l) (firstE l) t = Hul.it l.length (ptL l) (firstE l) 0 by omega]
theorem inP_iff {l : PL} {t : Nat} (ht : 3 ≤ t) (hb : cyc l t = cyc l 0) (z : Hul.Pt) : Hul.inP (cP l) (t - 1) z ↔ ∀ i, i < t → 0 < Hul.ar (cP l i) (cP l (i + 1)) z := by
  have e := cP_round hb
  constructor
  · rintro ⟨h1, h2⟩ i hi
    by_cases hl : i = t - 1
    · rw [hl, show t - 1 + 1 = t by omega, e]; exact h2
    · exact h1 i (by omega)
  · intro h
    refine ⟨fun i hi => h i (by omega), ?_⟩
    have := h (t - 1) (by omega)
    rwa [show t - 1 + 1 = t by omega, e] at this
/-! ### the corners as a list, and what follows in it -/
noncomputable def hullL (l : PL) (t : Nat) : PL := (List.range t).map fun k => pAt l (cyc l k)
theorem hullL_len (l : PL) (t : Nat) : (hullL l t).length = t := by unfold hullL; rw [List.length_map, List.length_range]
def nxtI (L : PL) (i : Int) : Int := Int.tmod (wrap64 (i + 1)) (L.length : Int)
theorem nxtI_range (L : PL) (h0 : 0 < L.length) (h7 : L.length ≤ 7) {i : Int} (i0 : 0 ≤ i) (i1 : i < (L.length : Int)) : 0 ≤ nxtI L i ∧ nxtI L i < (L.length : Int) := by
  unfold nxtI
  rw [w64 (by omega) (by omega), Int.tmod_eq_emod_of_nonneg (by omega)]
  exact ⟨Int.emod_nonneg _ (by omega), Int.emod_lt_of_pos _ (by omega)⟩
theorem hullL_rd (l : PL) (t k : Nat) (hk : k < t) : rd_T25 (hullL l t) (k : Int) = pAt l (cyc l k) := by
  unfold rd_T25 hullL
  rw [Int.toNat_natCast, List.getD_eq_getElem?_getD, List.getElem?_map, List.getElem?_range hk]
  rfl
theorem hullL_pt (l : PL) (t k : Nat) (hk : k < t) : ((rd_T25 (hullL l t) (k : Int)).f0, (rd_T25 (hullL l t) (k : Int)).f1) = cP l k := by
  rw [hullL_rd l t k hk]
  rfl
theorem hullL_nxt (l : PL) (t k : Nat) (ht : t ≤ 7) (hk : k < t) (hb : cyc l t = cyc l 0) : ((rd_T25 (hullL l t) (nxtI (hullL l t) (k : Int))).f0, (rd_T25 (hullL l t) (nxtI (hullL l t) (k : Int))).f1) = cP l (k + 1) := by
  have e : nxtI (hullL l t) (k : Int) = (((k + 1) % t : Nat) : Int) := by
    unfold nxtI
    rw [hullL_len, w64 (by omega) (by omega), Int.tmod_eq_emod_of_nonneg (by omega), Int.natCast_emod]
    rfl
  rw [e]
  by_cases hl : k + 1 = t
  · rw [hl, Nat.mod_self, hullL_pt l t 0 (by omega), cP_round hb]
  · rw [Nat.mod_eq_of_lt (by omega), hullL_pt l t (k + 1) (by omega)]
/-! ### what a point asks of the hull -/
def sideW (L : PL) (x y i : Int) : Int := areaW (rd_T25 L i).f0 (rd_T25 L i).f1 (rd_T25 L (nxtI L i)).f0 (rd_T25 L (nxtI L i)).f1 x y
def insB (L : PL) (x y : Int) : Bool := (ints 0 L.length).all fun i => decide (0 < sideW L x y i)
theorem mul_near (p q : Int) (h1 : -100 ≤ p) (h2 : p ≤ 100) (h3 : -1050 ≤ q) (h4 : q ≤ 1050) : -105000 ≤ p * q ∧ p * q ≤ 105000 := by
  have a1 := Int.mul_nonneg (show 0 ≤ 100 - p by omega) (show 0 ≤ 1050 + q by omega)
  have a2 := Int.mul_nonneg (show 0 ≤ 100 + p by omega) (show 0 ≤ 1050 - q by omega)
  have a3 := Int.mul_nonneg (show 0 ≤ 100 - p by omega) (show 0 ≤ 1050 - q by omega)
  have a4 := Int.mul_nonneg (show 0 ≤ 100 + p by omega) (show 0 ≤ 1050 + q by omega)
  constructor <;> grind
theorem sideW_ar {l : PL} (h : Pts l) {t : Nat} (ht : t ≤ 7) (hb : cyc l t = cyc l 0) {x y : Int} (hx : inB x 1000 = true) (hy : inB y 1000 = true) (k : Nat) (hk : k < t) : sideW (hullL l t) x y (k : Int) = Hul.ar (cP l k) (cP l (k + 1)) (x, y) := by
  have p0 := hullL_pt l t k hk
  have p1 := hullL_nxt l t k ht hk hb
  have b0 := cP_has h k
  have b1 := cP_has h (k + 1)
  rw [← p0, ← p1]
  rw [← p0] at b0
  rw [← p1] at b1
  rw [inB_iff] at hx hy
  unfold sideW areaW
  simp only [Hul.Box.has, box50] at b0 b1
  generalize (rd_T25 (hullL l t) (k : Int)).f0 = u at *
  generalize (rd_T25 (hullL l t) (k : Int)).f1 = v at *
  generalize (rd_T25 (hullL l t) (nxtI (hullL l t) (k : Int))).f0 = u' at *
  generalize (rd_T25 (hullL l t) (nxtI (hullL l t) (k : Int))).f1 = v' at *
  have m1 := mul_near (u' - u) (y - v) (by omega) (by omega) (by omega) (by omega)
  have m2 := mul_near (v' - v) (x - u) (by omega) (by omega) (by omega) (by omega)
  show wrap64 ((u' - u) * (y - v) - (v' - v) * (x - u)) = (u' - u) * (y - v) - (v' - v) * (x - u)
  exact w64 (by omega) (by omega)
theorem insB_iff {l : PL} (h : Pts l) {t : Nat} (ht : 3 ≤ t) (ht7 : t ≤ 7) (hb : cyc l t = cyc l 0) {x y : Int} (hx : inB x 1000 = true) (hy : inB y 1000 = true) : insB (hullL l t) x y = true ↔ Hul.inP (cP l) (t - 1) (x, y) := by
  rw [inP_iff ht hb]
  unfold insB
  simp only [List.all_eq_true, ints_mem_iff, decide_eq_true_eq, hullL_len]
  constructor
  · intro hall i hi
    have := hall (i : Int) ⟨by omega, by omega⟩
    rwa [sideW_ar h ht7 hb hx hy i hi] at this
  · intro hall i hi
    obtain ⟨k, rfl⟩ := Int.eq_ofNat_of_zero_le hi.1
    rw [sideW_ar h ht7 hb hx hy k (by omega)]
    exact hall k (by omega)
end Go.Proofs.Ytijgjpfbhbggdaa.Pure

namespace Go.Proofs.Ytijgjpfbhbggdaa.Pure
open Go.RowKit Go.Proofs.Ytijgjpfbhbggdaa.P Go.Proofs.YtijgjpfbhbggdaaW.PrintWords Go.Proofs.YtijgjpfbhbggdaaW.PrintLast
set_option linter.unusedSimpArgs false
set_option linter.unusedVariables false
open Go.Proofs.Ytijgjpfbhbggdaa.Com
def convPoint (x : S56) : S25 := ⟨x.f0, x.f1⟩
theorem toPointS_l0 (l : List S56) (hm : l.length ≤ 1099511627776) (d : Nat) : ∀ (k : Nat) (i : Int) (out : List S25), 0 ≤ i → i + d = l.length → out.length = l.length → d < k →
    laws_toPointS.l0 k l out i = some (out.take i.toNat ++ (l.drop i.toNat).map convPoint) := by
  induction d with
  | zero =>
    intro k i out h0 hi ho hk
    obtain ⟨k, rfl, _⟩ := succ_of_lt hk
    simp only [laws_toPointS.l0]
    rw [if_neg (by omega), List.take_of_length_le (by omega), List.drop_of_length_le (by omega)]; simp
  | succ d ih =>
    intro k i out h0 hi ho hk
    obtain ⟨k, rfl, hk⟩ := succ_of_lt hk
    have hlt : i.toNat < out.length := by omega
    simp only [laws_toPointS.l0]
    rw [if_pos (by omega), if_pos h0]
    simp only [laws_toPoint.f, Option.bind_some]
    rw [if_pos (by omega), w64 (by omega) (by omega), ih k (i + 1) _ (by omega) (by omega) (by simpa using ho) (by omega)]
    rw [show (i + 1).toNat = i.toNat + 1 from by omega, set_take_succ _ _ _ hlt, drop_cons l i.toNat z56 (by omega)]
    simp [convPoint, rd_T56]
theorem toPointS_eq (l : List S56) (hm : l.length ≤ 1048576) : Ev (fun k => laws_toPointS.f k l) (l.map convPoint) := by
  refine ⟨l.length + 1, fun k hk => ?_⟩
  dsimp only
  unfold laws_toPointS.f
  rw [if_pos (by omega), if_pos (by omega), toPointS_l0 l (by omega) l.length k 0 _ (by omega) (by omega) (by simp) (by omega)]
  simp
theorem eqPointS_l0 (a : List S25) (hm : a.length ≤ 1099511627776) (d : Nat) : ∀ (k : Nat) (i : Int), 0 ≤ i → i + d = a.length → d < k → laws_eqPointS.l0 k a a i = some true := by
  induction d with
  | zero =>
    intro k i h0 hi hk
    obtain ⟨k, rfl, _⟩ := succ_of_lt hk
    simp only [laws_eqPointS.l0]
    rw [if_neg (by omega)]
  | succ d ih =>
    intro k i h0 hi hk
    obtain ⟨k, rfl, hk⟩ := succ_of_lt hk
    simp only [laws_eqPointS.l0]
    rw [if_pos (by omega), if_pos h0, if_pos (by omega)]
    simp only [laws_eqPoint.f, if_true, Option.bind_some]
    rw [w64 (by omega) (by omega), ih k (i + 1) (by omega) (by omega) (by omega)]
theorem eqPointS_refl (a : List S25) (hm : a.length ≤ 1099511627776) : Ev (fun k => laws_eqPointS.f k a a) true := by
  refine ⟨a.length + 1, fun k hk => ?_⟩
  dsimp only
  unfold laws_eqPointS.f
  rw [if_pos rfl, eqPointS_l0 a hm a.length k 0 (by omega) (by omega) (by omega)]
end Go.Proofs.Ytijgjpfbhbggdaa.Pure

namespace Go.Proofs.Ytijgjpfbhbggdaa.Pure
open Go.RowKit Go.Proofs.Ytijgjpfbhbggdaa.P Go.Proofs.YtijgjpfbhbggdaaW.PrintWords Go.Proofs.YtijgjpfbhbggdaaW.PrintLast Go.Proofs.Ytijgjpfbhbggdaa.Com
set_option linter.unusedSimpArgs false
set_option linter.unusedVariables false

theorem szPointS_eq (l : List S56) (hm : l.length ≤ maxLen) : laws_szPointS.f l 1048576 = some (if l.length ≤ 1048576 then 1048576 - (l.length : Int) else -1) := by
  unfold maxLen at hm
  unfold laws_szPointS.f
  rw [w64 (by omega) (by omega)]
  by_cases h : l.length ≤ 1048576
  · rw [if_neg (by omega), if_pos h]
  · rw [if_pos (by omega), if_neg h]
end Go.Proofs.Ytijgjpfbhbggdaa.Pure

namespace Go.Proofs.Ytijgjpfbhbggdaa.Pure
open Go.RowKit Go.Proofs.Ytijgjpfbhbggdaa.P Go.Proofs.YtijgjpfbhbggdaaW.PrintWords Go.Proofs.YtijgjpfbhbggdaaW.PrintLast Go.Proofs.Ytijgjpfbhbggdaa.Com
set_option linter.unusedSimpArgs false
set_option linter.unusedVariables false

theorem l28Inside_ev (L : PL) (h0 : 0 < L.length) (h7 : L.length ≤ 7) (x y : Int) : Ev (fun q => spec_l28Inside.f q L x y) (insB L x y) := by
  unfold insB
  refine rangeLoop (σ := Unit) (l := fun q _ i => spec_l28Inside.l0 q L i x y) (L.length : Int) (T := allT _) (allT_mono _) (C := fun _ r => r = true) 0 ?_ ?_ L.length 0 (by omega) (by omega) () _ (allT_done _ _ _ rfl)
  · intro _ i i0 i1 r hT
    obtain ⟨n0, n1⟩ := nxtI_range L h0 h7 i0 i1
    unfold nxtI at n0 n1
    refine Ev.step (f := fun q => if sideW L x y i ≤ 0 then some false else spec_l28Inside.l0 q L (i + 1) x y) (fun q => ?_) ?_
    · simp only [spec_l28Inside.l0]
      rw [if_pos i1, if_pos i0, if_neg (by omega), if_pos n0, if_pos n1, l2Area_eq, w64 (x := i + 1) (by omega) (by omega)]
      simp only [Option.bind_some]
      unfold sideW nxtI
      rw [w64 (x := i + 1) (by omega) (by omega)]
    by_cases hz : sideW L x y i ≤ 0
    · have : r = false := by simpa [allT, show ¬ 0 < sideW L x y i by omega] using hT
      subst this; exact Ev.iteT hz (Ev.now _)
    · refine Ev.iteF hz ?_
      simpa [allT, show 0 < sideW L x y i by omega] using hT
  · intro _ r hC
    subst hC
    refine Ev.step (f := fun _ => some true) (fun q => ?_) (Ev.now true)
    simp only [spec_l28Inside.l0]
    rw [if_neg (by omega)]
theorem impl_inside_ev (L : PL) (h0 : 0 < L.length) (h7 : L.length ≤ 7) (hL : ∀ i : Int, 0 ≤ i → i < (L.length : Int) → fits50 L i = true) (x y : Int) : Ev (fun q => impl_IsGridInside.l0 q L L (L.length : Int) 0 x y) ((inB x 1000 && inB y 1000) && insB L x y) := by
  have e : ((inB x 1000 && inB y 1000) && insB L x y) = (ints 0 L.length).all fun i => (inB x 1000 && inB y 1000) && decide (0 < sideW L x y i) := by
    unfold insB
    cases hn : (inB x 1000 && inB y 1000) with
    | true => rfl
    | false =>
      rw [Bool.eq_iff_iff]
      simp only [Bool.false_and, List.all_eq_true, ints_mem_iff, Bool.false_eq_true, false_iff]
      intro hall
      exact hall 0 (by omega)
  rw [e]
  refine rangeLoop (σ := Unit) (l := fun q _ i => impl_IsGridInside.l0 q L L (L.length : Int) i x y) (L.length : Int) (T := allT _) (allT_mono _) (C := fun _ r => r = true) 0 ?_ ?_ L.length 0 (by omega) (by omega) () _ (allT_done _ _ _ rfl)
  · intro _ i i0 i1 r hT
    obtain ⟨n0, n1⟩ := nxtI_range L h0 h7 i0 i1
    have f0 := hL i i0 i1
    have f1 := hL _ n0 n1
    have ht : impl_TurnOf.f (rd_T25 L i).f0 (rd_T25 L i).f1 (rd_T25 L (nxtI L i)).f0 (rd_T25 L (nxtI L i)).f1 x y = some (if (inB x 1000 && inB y 1000) = true then sgn (sideW L x y i) else 0) := by
      rw [TurnOf_eq]
      have a0 : (inB (rd_T25 L i).f0 1000 && inB (rd_T25 L i).f1 1000) = true := by
        simp only [fits50, Bool.and_eq_true, inB_iff] at f0 ⊢; omega
      have a1 : (inB (rd_T25 L (nxtI L i)).f0 1000 && inB (rd_T25 L (nxtI L i)).f1 1000) = true := by
        simp only [fits50, Bool.and_eq_true, inB_iff] at f1 ⊢; omega
      rw [a0, a1, Bool.true_and, Bool.true_and]
      rfl
    unfold nxtI at n0 n1 ht
    refine Ev.step (f := fun q => if (if (inB x 1000 && inB y 1000) = true then sgn (sideW L x y i) else 0) = 1 then impl_IsGridInside.l0 q L L (L.length : Int) (i + 1) x y else some false) (fun q => ?_) ?_
    · simp only [impl_IsGridInside.l0]
      rw [if_pos i1, if_pos i0, if_pos i1, if_neg (by omega), if_pos n0, if_pos n1, ht, w64 (x := i + 1) (by omega) (by omega)]
      rfl
    have sp : sgn (sideW L x y i) = 1 ↔ 0 < sideW L x y i := by unfold sgn; split <;> (try split) <;> omega
    by_cases hz : (inB x 1000 && inB y 1000) = true ∧ 0 < sideW L x y i
    · refine Ev.iteT (by rw [if_pos hz.1]; exact sp.2 hz.2) ?_
      simpa [allT, hz.1, hz.2] using hT
    · have hf : ((inB x 1000 && inB y 1000) && decide (0 < sideW L x y i)) = false := by
        rw [Bool.eq_false_iff]; intro hb; rw [Bool.and_eq_true, decide_eq_true_eq] at hb; exact hz hb
      have : r = false := by simpa only [allT, hf, Bool.false_eq_true, if_false] using hT
      subst this
      refine Ev.iteF (fun hc => hz ?_) (Ev.now _)
      by_cases hn : (inB x 1000 && inB y 1000) = true
      · rw [if_pos hn] at hc; exact ⟨hn, sp.1 hc⟩
      · rw [if_neg hn] at hc; exact absurd hc (by decide)
  · intro _ r hC
    subst hC
    refine Ev.step (f := fun _ => some true) (fun q => ?_) (Ev.now true)
    simp only [impl_IsGridInside.l0]
    rw [if_neg (by omega)]
theorem hullL_fit {l : PL} (h : Pts l) (t : Nat) (i : Int) (i0 : 0 ≤ i) (i1 : i < ((hullL l t).length : Int)) : fits50 (hullL l t) i = true := by
  rw [hullL_len] at i1
  obtain ⟨k, rfl⟩ := Int.eq_ofNat_of_zero_le i0
  have b := cP_has h k
  rw [← hullL_pt l t k (by omega)] at b
  simp only [fits50, Bool.and_eq_true, inB_iff]
  simp only [Hul.Box.has, box50] at b
  omega
theorem inside_both (l : PL) (hl : l.length ≤ 1099511627776) (x y : Int) : ∃ v, Ev (fun k => spec_IsGridInside.f k l x y) v ∧ Ev (fun k => impl_IsGridInside.f k l x y) v := by
  cases hb : pointsB l with
  | false =>
    refine ⟨false, ?_, ?_⟩
    · exact Ev.bind (by have := spec_ArePoints_ev l hl; rw [hb] at this; exact this) (Ev.iteF (by decide) (Ev.now _))
    · exact Ev.bind (by have := impl_ArePoints_ev l hl; rw [hb] at this; exact this) (Ev.iteF (by decide) (Ev.now _))
  | true =>
    have h := Pts.of hb
    obtain ⟨t, h0, ht, hc, hj, hi, hs⟩ := hull_both h
    have h7 := h.len
    obtain ⟨t3, hp⟩ := poly_of h h0 hc hj
    have e50 : ((inB x 1000 && inB y 1000) && insB (hullL l t) x y) = ((inB x 50 && inB y 50) && insB (hullL l t) x y) := by
      rw [Bool.eq_iff_iff]
      simp only [Bool.and_eq_true]
      constructor
      · rintro ⟨⟨hx, hy⟩, hins⟩
        have hz := Hul.inP_has hp (cP_has h) ((insB_iff h t3 (by omega) hc hx hy).1 hins)
        simp only [Hul.Box.has, box50] at hz
        simp only [inB_iff]
        exact ⟨⟨by omega, by omega⟩, hins⟩
      · rintro ⟨⟨hx, hy⟩, hins⟩
        simp only [inB_iff] at hx hy ⊢
        exact ⟨⟨by omega, by omega⟩, hins⟩
    refine ⟨((inB x 50 && inB y 50) && insB (hullL l t) x y), ?_, ?_⟩
    · refine Ev.bind (by have := spec_ArePoints_ev l hl; rw [hb] at this; exact this) (Ev.iteT rfl ?_)
      rw [l2Fits_eq _ _ 50 (by omega) (by omega)]
      simp only [Option.bind_some]
      cases hf : (inB x 50 && inB y 50) with
      | false => exact Ev.iteF (by decide) (Ev.now _)
      | true => exact Ev.iteT rfl (Ev.bind hs (Ev.bind (l28Inside_ev (hullL l t) (by rw [hullL_len]; omega) (by rw [hullL_len]; omega) x y) (Ev.now _)))
    · refine Ev.bind (by have := impl_ArePoints_ev l hl; rw [hb] at this; exact this) (Ev.iteT rfl (Ev.bind hi ?_))
      rw [← e50]
      exact impl_inside_ev (hullL l t) (by rw [hullL_len]; omega) (by rw [hullL_len]; omega) (hullL_fit h t) x y
theorem FnExactIsGridInside : laws_FnExactIsGridInside.Pure := by
  rintro x p ⟨hm, _⟩ _
  apply Ev.rounds
  simp only [laws_FnExactIsGridInside.f, laws_toPoint.f, szPointS_eq x hm, Option.bind_some]
  by_cases h : x.length ≤ 1048576
  · rw [if_pos h]
    refine Ev.iteF (by omega) ?_
    have hl : (x.map convPoint).length ≤ 1048576 := by simpa using h
    obtain ⟨v, h1, h2⟩ := inside_both (x.map convPoint) (by omega) p.f0 p.f1
    refine Ev.bind (toPointS_eq x h) (Ev.bind h1 (Ev.bind (toPointS_eq x h) (Ev.bind h2 (Ev.iteF (by cases v <;> decide) (Ev.bind (toPointS_eq x h) (Ev.bind (eqPointS_refl _ (by omega)) (Ev.iteT rfl (Ev.now true))))))))
  · rw [if_neg h]
    exact Ev.iteT (by omega) (Ev.now true)
end Go.Proofs.Ytijgjpfbhbggdaa.Pure

namespace Go.Proofs.Ytijgjpfbhbggdaa.Opn
open Go Go.Deep Go.ChangeShapes Go.WideShapes Go.Proofs.YtijgjpfbhbggdaaW.PrintWords

section
variable {H : Type} (enc : TypeId × Value → H) (P : Program) (w : World) (base : Nat) (spare : Nat → Bool) (held : Bool)
/-- Whatever is read at type t is told by the kind d, and Q holds of it. -/
def Opens {α : Type} (d : Kd α) (t : TypeId) (Q : α → Prop) : Prop :=
  ∀ (fuel : Nat) (cs : List Value) (x : DataW H × List MemPlace), DataW.trod enc P w base spare held fuel t cs = some x → ∃ a, d.K w a cs ∧ Q a
end
section
variable {H : Type} {enc : TypeId × Value → H} {P : Program} {w : World} {base : Nat} {spare : Nat → Bool} {held : Bool}
theorem opens_int {t : TypeId} {k : IntKind} (ht : P.underlying t = some (.int k)) : Opens enc P w base spare held (Kd.int k) t (fun n => (Lit.int k n).wf = true) := fun fuel cs x h => by
  obtain ⟨n, rfl, _, hw⟩ := DataW.trod_int ht h
  exact ⟨n, rfl, hw⟩
theorem opens_iso {α β : Type} {d : Kd α} {t : TypeId} {Q : α → Prop} (h : Opens enc P w base spare held d t Q) (f : β → α) (g : α → β) (hfg : ∀ a, f (g a) = a) : Opens enc P w base spare held (Kd.iso d f) t (fun b => Q (f b)) := fun fuel cs x hx => by
  obtain ⟨a, hK, hQ⟩ := h fuel cs x hx
  exact ⟨g a, by show d.K w (f (g a)) cs; rw [hfg]; exact hK, by show Q (f (g a)); rw [hfg]; exact hQ⟩
/-- A list of fields, one behind the other, from the cell o on. -/
def OpensFs (enc : TypeId × Value → H) (P : Program) (w : World) (base : Nat) (spare : Nat → Bool) (held : Bool) {α : Type} (d : Kd α) (o : Nat) (fs : List Field) (Q : α → Prop) : Prop :=
  ∀ (n : Nat) (cs : List Value), cs.length = o + d.sz → (∀ f ∈ fs, ∃ x, DataW.trod enc P w base spare held n f.type ((cs.drop f.offset).take (P.cellsOf f.type)) = some x) → ∃ a, d.K w a (cs.drop o) ∧ Q a
theorem opensFs_one {α : Type} {d : Kd α} {o : Nat} {f : Field} {Q : α → Prop} (h : Opens enc P w base spare held d f.type Q) (ho : f.offset = o) (hc : P.cellsOf f.type = d.sz) : OpensFs enc P w base spare held d o [f] Q := by
  intro n cs hl hf
  obtain ⟨x, hx⟩ := hf f (by simp)
  obtain ⟨a, hK, hQ⟩ := h n _ x hx
  refine ⟨a, ?_, hQ⟩
  rwa [ho, hc, List.take_of_length_le (by rw [List.length_drop]; omega)] at hK
theorem opensFs_cons {α β : Type} {d : Kd α} {e : Kd β} {o : Nat} {f : Field} {fs : List Field} {Q : α → Prop} {R : β → Prop} (h : Opens enc P w base spare held d f.type Q) (hs : OpensFs enc P w base spare held e (o + d.sz) fs R) (ho : f.offset = o) (hc : P.cellsOf f.type = d.sz) :
    OpensFs enc P w base spare held (Kd.pair d e) o (f :: fs) (fun x => Q x.1 ∧ R x.2) := by
  intro n cs hl hf
  have hz : (Kd.pair d e).sz = d.sz + e.sz := rfl
  rw [hz] at hl
  obtain ⟨x, hx⟩ := hf f (by simp)
  obtain ⟨a, hK, hQ⟩ := h n _ x hx
  obtain ⟨b, hK', hR⟩ := hs n cs (by omega) (fun g hg => hf g (by simp [hg]))
  rw [ho, hc] at hK
  refine ⟨(a, b), ⟨(cs.drop o).take d.sz, cs.drop (o + d.sz), ?_, hK, hK'⟩, hQ, hR⟩
  rw [← List.drop_drop, List.take_append_drop]
theorem opens_struct {α : Type} {d : Kd α} {t : TypeId} {fs : Array Field} {Q : α → Prop} (ht : P.underlying t = some (.struct fs)) (hc : P.cellsOf t = d.sz) (h : OpensFs enc P w base spare held d 0 fs.toList Q) : Opens enc P w base spare held d t Q := fun fuel cs x hx => by
  obtain ⟨xs, n, rfl, rfl, hl, hlen, hf⟩ := DataW.trod_struct ht hx
  obtain ⟨a, hK, hQ⟩ := h n cs (by omega) (fun f hm => by
    obtain ⟨i, hi, rfl⟩ := List.mem_iff_getElem.1 hm
    have hi' : i < fs.size := by simpa using hi
    have := hf i fs[i] (by simp [hi'])
    rw [List.getElem?_eq_getElem (by omega)] at this
    exact ⟨_, by simpa using this⟩)
  exact ⟨a, by simpa using hK, hQ⟩
theorem opens_slice {α : Type} {d : Kd α} {t e : TypeId} {Q : α → Prop} (ht : P.underlying t = some (.slice e)) (hc : P.cellsOf e = d.sz) (h : Opens enc P w base spare held d e Q) :
    Opens enc P w base spare held (Kd.slice e d) t (fun xs => xs.length ≤ maxLen ∧ ∀ x ∈ xs, Q x) := fun fuel cs x hx => by
  rcases open_slice ht hx with ⟨rfl, _⟩ | ⟨a, len, cap, m, n, D, Pl, rfl, _, hl, hm, hmm, _, hel⟩
  · exact ⟨[], ⟨none, 0, rfl, Nat.le_refl _, ⟨rfl, by simp, fun h => by simp at h⟩⟩, by simp⟩
  have hlm : len ≤ m := by rw [hmm]; split <;> omega
  have hi : ∀ i : Fin len, ∃ y : α, (∃ cs', w.cells? base (a.add (i.val * P.cellsOf e)) (P.cellsOf e) = some cs' ∧ d.K w y cs') ∧ Q y := fun i => by
    obtain ⟨cs', h1, h2⟩ := hel i.val (by omega)
    obtain ⟨y, hK, hQ⟩ := h _ _ _ h2
    exact ⟨y, ⟨cs', h1, hK⟩, hQ⟩
  let f : Fin len → α := fun i => Classical.choose (hi i)
  have hfs : ∀ i : Fin len, (∃ cs', w.cells? base (a.add (i.val * P.cellsOf e)) (P.cellsOf e) = some cs' ∧ d.K w (f i) cs') ∧ Q (f i) := fun i => Classical.choose_spec (hi i)
  have hlen : (List.ofFn f).length = len := by simp
  have hmax : cap ≤ 9223372036854775807 := by unfold maxLen at hm; omega
  refine ⟨List.ofFn f, ⟨some a, cap, by rw [hlen], by omega, ⟨rfl, by omega, fun _ => ⟨a, rfl, fun j p hj => ?_⟩⟩⟩, by omega, fun y hy => ?_⟩
  · obtain ⟨hj', rfl⟩ := List.getElem?_eq_some_iff.1 hj
    obtain ⟨⟨cs', h1, hK⟩, _⟩ := hfs ⟨j, by omega⟩
    obtain ⟨_, hcl, hcell⟩ := World.cells?_some h1
    refine ⟨cs', by omega, by simpa using hK, fun i u hu => ?_⟩
    have hiu : i < P.cellsOf e := by
      have := (List.getElem?_eq_some_iff.1 hu).1
      omega
    have := hcell i hiu
    rw [Go.Deep.add_add, hu, hc] at this
    exact this
  · obtain ⟨i, rfl⟩ := (List.mem_ofFn).1 hy
    exact (hfs i).2
end
end Go.Proofs.Ytijgjpfbhbggdaa.Opn

