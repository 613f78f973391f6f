-- Written by a program of this session (wip/tools/pmore.py) for this claim; Lean checks it.
import Derived.Test.YtdfnongjbddngaaP0
import Derived.Test.YtdfnongjbddngaaPF55
import Derived.Test.YtdfnongjbddngaaPF69
import Derived.Test.YtdfnongjbddngaaPF56
import Derived.Test.YtdfnongjbddngaaPF57
namespace Go.Proofs.Ytdfnongjbddngaa.P
open Go.RowKit Go.Proofs.YtdfnongjbddngaaW.PrintWords Go.Proofs.YtdfnongjbddngaaW.PrintLast Go.Proofs.YtdfnongjbddngaaW.PrintMore
attribute [local go_sem] max2_int min2_int max_two min_two max_three min_three max_four min_four   -- for this text's walks alone
set_option linter.unusedVariables false
set_option linter.unusedSimpArgs false

/-! ### impl_AreLines: function 28 -/
def badLine (l : S48) : Bool := farB l.f0 20 || (farB l.f1 20 || (farB l.f2 20 || (l.f0 == 0 && l.f1 == 0)))
/-- The i-th line is right, and no earlier line is the same. -/
def goodAt (l : List S48) (i : Nat) : Bool := !badLine (l.getD i z48) && !(l.take i).any (sameB (l.getD i z48))
def impl_AreLines.f (l0 : List S48) : Option Bool := some ((List.range l0.length).all (goodAt l0) && (decide (1 ≤ l0.length) && decide (l0.length ≤ 6)))
theorem goodAt_no (l : List S48) (i : Nat) (hi : i < l.length) (h : goodAt l i = false) (q : Bool) : ((List.range l.length).all (goodAt l) && q) = false := by
  have : (List.range l.length).all (goodAt l) = false := by
    rw [List.all_eq_false]; exact ⟨i, by simpa using hi, by simp [h]⟩
  rw [this]; rfl
theorem goodAt_all (l : List S48) (h : ∀ j, j < l.length → goodAt l j = true) (q : Bool) : ((List.range l.length).all (goodAt l) && q) = q := by
  have : (List.range l.length).all (goodAt l) = true := by rw [List.all_eq_true]; intro j hj; exact h j (by simpa using hj)
  rw [this]; rfl
theorem containsLine_calls' (g : Nat) (lb : Array Value) (eg : ∀ args w, (callFunc g args).run Try.prog w = .ok (.enter g args) w) (p : S48 → Bool) (A : Option Addr) (c : Nat) (l : List S48) (n : Nat) (w : World) (hn : n = l.length) (hr : Kd.C k48 w A l.length l) (hc : l.length ≤ c) (hp : PredLine g lb p w) :
    Calls Try.prog 56 #[.slice A n c, .func (.func g) #[] lb] w fun e w' => e = .returned (.bool (l.any p)) ∧ Below w.heap.size w w' := by
  subst hn; exact containsLine_calls g lb eg p A c l w hr hc hp
set_option maxHeartbeats 4000000 in
set_option maxRecDepth 100000 in
theorem impl_AreLines.calls (A0 : Option Addr) (c0 : Nat) (l0 : List S48) (r : Bool) (w : World) (hr0 : Kd.C k48 w A0 l0.length l0) (hc0 : l0.length ≤ c0) (h : impl_AreLines.f l0 = some r) :
    Calls Try.prog 28 #[.slice A0 l0.length c0] w fun e w' => e = .returned (.bool r) ∧ Below w.heap.size w w' := by
  have H : ((List.range l0.length).all (goodAt l0) && (decide (1 ≤ l0.length) && decide (l0.length ≤ 6))) = r := Option.some.inj h
  have HH := Aside0.mk H
  clear H h
  have hu48 := Try.underlying48
  have hmax : l0.length ≤ 9223372036854775807 := hr0.2.1
  have HR := Aside0.mk hr0
  clear hr0
  have eg : ∀ (args : Array Value) (w : World), (callFunc 57 args).run Try.prog w = .ok (.enter 57 args) w := enters_of Try.func57 (by kernel_rfl) rfl
  go_enter Try.func28, Try.ntmps28
  go_wp2_with fail
  go_loopg [7] l0.length (fun gg s7 wr => ∃ kk : Nat, kk ≤ l0.length ∧ l0.length - kk ≤ gg ∧ s7 = .int .i64 kk ∧ Aside0 (Below w.heap.size w wr) ∧ Aside0 (∀ j, j < kk → goodAt l0 j = true))
  case atStart => exact ⟨0, Nat.zero_le _, by omega, rfl, ⟨Below.refl _ w⟩, ⟨fun j hj => absurd hj (Nat.not_lt_zero _)⟩⟩
  case round =>
    obtain ⟨kk, hkk, hg, rfl, BW, AA⟩ := hrel
    by_cases hlt : kk < l0.length
    · have hltz : (kk : Int) < (l0.length : Int) := by omega
      have hkc : kk ≤ c0 := by omega
      have hkl : kk ≤ l0.length := by omega
      obtain ⟨ad, rfl, hx0, hx1, hx2⟩ := at_T48 (Kd.C_below HR.out BW.out) (kk : Int) (by omega) hltz
      simp only [Int.toNat_natCast] at hx0 hx1 hx2
      have hrdk : rd_T48 l0 (kk : Int) = l0.getD kk z48 := rfl
      generalize hy : rd_T48 l0 (kk : Int) = y at hx0 hx1 hx2 hrdk
      have HY := Aside0.mk hrdk
      clear hrdk hy
      have HG := Aside0.mk (show goodAt l0 kk = (!badLine y && !(l0.take kk).any (sameB y)) by unfold goodAt; rw [← HY.out])
      cases hq : badLine y with
      | true =>
        have HN := Aside0.mk (show goodAt l0 kk = false by rw [HG.out, hq]; rfl)
        cases h0 : farB y.f0 20 with
        | true =>
          have Q0 := Aside0.mk h0
          clear hq h0
          go_wp2_with (first
            | ((with_reducible refine (impl_isFar.calls y.f0 20 _ _ (isFar_is _ 20 Q0.out)).mono ?_); rintro e w1 ⟨rfl, ⟨n1, rfl⟩⟩))
          go_ret
          exact ⟨by rw [← HH.out, goodAt_no l0 kk hlt HN.out]; rfl, by repeat (first | exact BW.out | apply below_alloc | apply pw_below_drewN | apply below_drew1)⟩
        | false =>
          have Q0 := Aside0.mk h0
          cases h1 : farB y.f1 20 with
          | true =>
            have Q1 := Aside0.mk h1
            clear hq h0 h1
            go_wp2_with (first
            | ((with_reducible refine (impl_isFar.calls y.f0 20 _ _ (isFar_is _ 20 Q0.out)).mono ?_); rintro e w1 ⟨rfl, ⟨n1, rfl⟩⟩)
            | ((with_reducible refine (impl_isFar.calls y.f1 20 _ _ (isFar_is _ 20 Q1.out)).mono ?_); rintro e w1 ⟨rfl, ⟨n2, rfl⟩⟩))
            go_ret
            exact ⟨by rw [← HH.out, goodAt_no l0 kk hlt HN.out]; rfl, by repeat (first | exact BW.out | apply below_alloc | apply pw_below_drewN | apply below_drew1)⟩
          | false =>
            have Q1 := Aside0.mk h1
            cases h2 : farB y.f2 20 with
            | true =>
              have Q2 := Aside0.mk h2
              clear hq h0 h1 h2
              go_wp2_with (first
            | ((with_reducible refine (impl_isFar.calls y.f0 20 _ _ (isFar_is _ 20 Q0.out)).mono ?_); rintro e w1 ⟨rfl, ⟨n1, rfl⟩⟩)
            | ((with_reducible refine (impl_isFar.calls y.f1 20 _ _ (isFar_is _ 20 Q1.out)).mono ?_); rintro e w1 ⟨rfl, ⟨n2, rfl⟩⟩)
            | ((with_reducible refine (impl_isFar.calls y.f2 20 _ _ (isFar_is _ 20 Q2.out)).mono ?_); rintro e w1 ⟨rfl, ⟨n3, rfl⟩⟩))
              go_ret
              exact ⟨by rw [← HH.out, goodAt_no l0 kk hlt HN.out]; rfl, by repeat (first | exact BW.out | apply below_alloc | apply pw_below_drewN | apply below_drew1)⟩
            | false =>
              have Q2 := Aside0.mk h2
              have hz : (y.f0 == 0) = true ∧ (y.f1 == 0) = true := by simpa [badLine, h0, h1, h2] using hq
              obtain ⟨z0b, z1b⟩ := hz
              clear hq h0 h1 h2
              go_wp2_with (first
            | ((with_reducible refine (impl_isFar.calls y.f0 20 _ _ (isFar_is _ 20 Q0.out)).mono ?_); rintro e w1 ⟨rfl, ⟨n1, rfl⟩⟩)
            | ((with_reducible refine (impl_isFar.calls y.f1 20 _ _ (isFar_is _ 20 Q1.out)).mono ?_); rintro e w1 ⟨rfl, ⟨n2, rfl⟩⟩)
            | ((with_reducible refine (impl_isFar.calls y.f2 20 _ _ (isFar_is _ 20 Q2.out)).mono ?_); rintro e w1 ⟨rfl, ⟨n3, rfl⟩⟩))
              go_ret
              exact ⟨by rw [← HH.out, goodAt_no l0 kk hlt HN.out]; rfl, by repeat (first | exact BW.out | apply below_alloc | apply pw_below_drewN | apply below_drew1)⟩
      | false =>
        have HQ := Aside0.mk hq
        have Q0 := Aside0.mk (show farB y.f0 20 = false by simp [badLine] at hq; exact hq.1)
        have Q1 := Aside0.mk (show farB y.f1 20 = false by simp [badLine] at hq; exact hq.2.1)
        have Q2 := Aside0.mk (show farB y.f2 20 = false by simp [badLine] at hq; exact hq.2.2.1)
        by_cases z0 : y.f0 = 0
        · have z1 : ¬ y.f1 = 0 := by simp [badLine] at hq; exact hq.2.2.2 z0
          have z0b : (y.f0 == 0) = true := beq_iff_eq.mpr z0
          have z1b : (y.f1 == 0) = false := beq_eq_false_iff_ne.mpr z1
          clear z0 z1 hq
          go_wp2_with (first
            | ((with_reducible refine (impl_isFar.calls y.f0 20 _ _ (isFar_is _ 20 Q0.out)).mono ?_); rintro e w1 ⟨rfl, ⟨n1, rfl⟩⟩)
            | ((with_reducible refine (impl_isFar.calls y.f1 20 _ _ (isFar_is _ 20 Q1.out)).mono ?_); rintro e w1 ⟨rfl, ⟨n2, rfl⟩⟩)
            | ((with_reducible refine (impl_isFar.calls y.f2 20 _ _ (isFar_is _ 20 Q2.out)).mono ?_); rintro e w1 ⟨rfl, ⟨n3, rfl⟩⟩))
          cases hs : (l0.take kk).any (sameB y) with
          | true =>
            have HS := Aside0.mk hs
            clear hs
            (with_reducible refine (containsLine_calls' 57 _ eg (sameB y) (some ad) c0 (l0.take kk) kk _ (by rw [List.length_take]; omega) ?s1 ?s2 ?s3).mono ?_)
            case s1 => exact Kd.C_below (Kd.C_take HR.out (by omega)) (by repeat (first | exact BW.out | apply below_alloc | apply pw_below_drewN | apply below_drew1))
            case s2 => rw [List.length_take]; omega
            case s3 =>
              intro W x hb
              have hlw : wr.heap.size < W.heap.size := by have := hb.size; simp at this; omega
              exact AreLines_lit y x wr.heap.size W hlw ((hb.cell (p := ⟨wr.heap.size, 0, none⟩) (by simp)).trans (by simp)) ((hb.cell (p := ⟨wr.heap.size, 1, none⟩) (by simp)).trans (by simp)) ((hb.cell (p := ⟨wr.heap.size, 2, none⟩) (by simp)).trans (by simp))
            rintro e w2 ⟨rfl, hb2⟩
            rw [HS.out]
            have HN := Aside0.mk (show goodAt l0 kk = false by rw [HG.out, HQ.out, HS.out]; rfl)
            have HB2 := Aside0.mk (below_step (by repeat (first | exact BW.out | apply below_alloc | apply pw_below_drewN | apply below_drew1)) hb2)
            clear hb2
            go_wp2_with fail
            go_ret
            exact ⟨by rw [← HH.out, goodAt_no l0 kk hlt HN.out]; rfl, HB2.out⟩
          | false =>
            have HS := Aside0.mk hs
            clear hs
            (with_reducible refine (containsLine_calls' 57 _ eg (sameB y) (some ad) c0 (l0.take kk) kk _ (by rw [List.length_take]; omega) ?s1 ?s2 ?s3).mono ?_)
            case s1 => exact Kd.C_below (Kd.C_take HR.out (by omega)) (by repeat (first | exact BW.out | apply below_alloc | apply pw_below_drewN | apply below_drew1))
            case s2 => rw [List.length_take]; omega
            case s3 =>
              intro W x hb
              have hlw : wr.heap.size < W.heap.size := by have := hb.size; simp at this; omega
              exact AreLines_lit y x wr.heap.size W hlw ((hb.cell (p := ⟨wr.heap.size, 0, none⟩) (by simp)).trans (by simp)) ((hb.cell (p := ⟨wr.heap.size, 1, none⟩) (by simp)).trans (by simp)) ((hb.cell (p := ⟨wr.heap.size, 2, none⟩) (by simp)).trans (by simp))
            rintro e w2 ⟨rfl, hb2⟩
            rw [HS.out]
            have HN := Aside0.mk (show goodAt l0 kk = true by rw [HG.out, HQ.out, HS.out]; rfl)
            have HB2 := Aside0.mk (below_step (by repeat (first | exact BW.out | apply below_alloc | apply pw_below_drewN | apply below_drew1)) hb2)
            clear hb2
            go_wp2_with fail
            go_roundg (l0.length - (kk + 1))
            case measure => omega
            case rel =>
              refine ⟨kk + 1, by omega, by omega, by go_num, HB2, ⟨fun j hj => ?_⟩⟩
              by_cases e : j = kk
              · subst e; exact HN.out
              · exact AA.out j (by omega)
        · have z0b : (y.f0 == 0) = false := beq_eq_false_iff_ne.mpr z0
          clear z0 hq
          go_wp2_with (first
            | ((with_reducible refine (impl_isFar.calls y.f0 20 _ _ (isFar_is _ 20 Q0.out)).mono ?_); rintro e w1 ⟨rfl, ⟨n1, rfl⟩⟩)
            | ((with_reducible refine (impl_isFar.calls y.f1 20 _ _ (isFar_is _ 20 Q1.out)).mono ?_); rintro e w1 ⟨rfl, ⟨n2, rfl⟩⟩)
            | ((with_reducible refine (impl_isFar.calls y.f2 20 _ _ (isFar_is _ 20 Q2.out)).mono ?_); rintro e w1 ⟨rfl, ⟨n3, rfl⟩⟩))
          cases hs : (l0.take kk).any (sameB y) with
          | true =>
            have HS := Aside0.mk hs
            clear hs
            (with_reducible refine (containsLine_calls' 57 _ eg (sameB y) (some ad) c0 (l0.take kk) kk _ (by rw [List.length_take]; omega) ?s1 ?s2 ?s3).mono ?_)
            case s1 => exact Kd.C_below (Kd.C_take HR.out (by omega)) (by repeat (first | exact BW.out | apply below_alloc | apply pw_below_drewN | apply below_drew1))
            case s2 => rw [List.length_take]; omega
            case s3 =>
              intro W x hb
              have hlw : wr.heap.size < W.heap.size := by have := hb.size; simp at this; omega
              exact AreLines_lit y x wr.heap.size W hlw ((hb.cell (p := ⟨wr.heap.size, 0, none⟩) (by simp)).trans (by simp)) ((hb.cell (p := ⟨wr.heap.size, 1, none⟩) (by simp)).trans (by simp)) ((hb.cell (p := ⟨wr.heap.size, 2, none⟩) (by simp)).trans (by simp))
            rintro e w2 ⟨rfl, hb2⟩
            rw [HS.out]
            have HN := Aside0.mk (show goodAt l0 kk = false by rw [HG.out, HQ.out, HS.out]; rfl)
            have HB2 := Aside0.mk (below_step (by repeat (first | exact BW.out | apply below_alloc | apply pw_below_drewN | apply below_drew1)) hb2)
            clear hb2
            go_wp2_with fail
            go_ret
            exact ⟨by rw [← HH.out, goodAt_no l0 kk hlt HN.out]; rfl, HB2.out⟩
          | false =>
            have HS := Aside0.mk hs
            clear hs
            (with_reducible refine (containsLine_calls' 57 _ eg (sameB y) (some ad) c0 (l0.take kk) kk _ (by rw [List.length_take]; omega) ?s1 ?s2 ?s3).mono ?_)
            case s1 => exact Kd.C_below (Kd.C_take HR.out (by omega)) (by repeat (first | exact BW.out | apply below_alloc | apply pw_below_drewN | apply below_drew1))
            case s2 => rw [List.length_take]; omega
            case s3 =>
              intro W x hb
              have hlw : wr.heap.size < W.heap.size := by have := hb.size; simp at this; omega
              exact AreLines_lit y x wr.heap.size W hlw ((hb.cell (p := ⟨wr.heap.size, 0, none⟩) (by simp)).trans (by simp)) ((hb.cell (p := ⟨wr.heap.size, 1, none⟩) (by simp)).trans (by simp)) ((hb.cell (p := ⟨wr.heap.size, 2, none⟩) (by simp)).trans (by simp))
            rintro e w2 ⟨rfl, hb2⟩
            rw [HS.out]
            have HN := Aside0.mk (show goodAt l0 kk = true by rw [HG.out, HQ.out, HS.out]; rfl)
            have HB2 := Aside0.mk (below_step (by repeat (first | exact BW.out | apply below_alloc | apply pw_below_drewN | apply below_drew1)) hb2)
            clear hb2
            go_wp2_with fail
            go_roundg (l0.length - (kk + 1))
            case measure => omega
            case rel =>
              refine ⟨kk + 1, by omega, by omega, by go_num, HB2, ⟨fun j hj => ?_⟩⟩
              by_cases e : j = kk
              · subst e; exact HN.out
              · exact AA.out j (by omega)
    · have hltz : ¬ (kk : Int) < (l0.length : Int) := by omega
      have HE := Aside0.mk (goodAt_all l0 (fun j hj => AA.out j (by omega)))
      clear AA
      by_cases n1 : 1 ≤ l0.length
      · have b1 : decide (1 ≤ l0.length) = true := decide_eq_true n1
        by_cases n2 : l0.length ≤ 6
        · have b2 : decide (l0.length ≤ 6) = true := decide_eq_true n2
          have b3 : decide ((l0.length : Int) ≤ 6) = true := decide_eq_true (by omega)
          have HF := Aside0.mk (show r = true by rw [← HH.out, HE.out, b1, b2]; rfl)
          go_wp2_with fail
          go_ret
          exact ⟨by rw [HF.out]; rfl, by repeat (first | exact BW.out | apply below_alloc | apply pw_below_drewN | apply below_drew1)⟩
        · have b2 : decide (l0.length ≤ 6) = false := decide_eq_false n2
          have b3 : decide ((l0.length : Int) ≤ 6) = false := decide_eq_false (by omega)
          have HF := Aside0.mk (show r = false by rw [← HH.out, HE.out, b1, b2]; rfl)
          go_wp2_with fail
          go_ret
          exact ⟨by rw [HF.out]; rfl, by repeat (first | exact BW.out | apply below_alloc | apply pw_below_drewN | apply below_drew1)⟩
      · have b1 : decide (1 ≤ l0.length) = false := decide_eq_false n1
        have HF := Aside0.mk (show r = false by rw [← HH.out, HE.out, b1]; rfl)
        go_wp2_with fail
        go_ret
        exact ⟨by rw [HF.out]; rfl, by repeat (first | exact BW.out | apply below_alloc | apply pw_below_drewN | apply below_drew1)⟩

end Go.Proofs.Ytdfnongjbddngaa.P
