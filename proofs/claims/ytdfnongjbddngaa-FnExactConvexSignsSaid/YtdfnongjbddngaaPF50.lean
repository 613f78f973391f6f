-- Written by a program of this session (wip/tools/pmore.py) for this claim; Lean checks it.
import Derived.Test.YtdfnongjbddngaaP0
namespace Go.Proofs.Ytdfnongjbddngaa.P
open Go.RowKit Go.Proofs.YtdfnongjbddngaaW.PrintWords Go.Proofs.YtdfnongjbddngaaW.PrintLast Go.Proofs.YtdfnongjbddngaaW.PrintMore
attribute [local go_sem] max2_int min2_int max_two min_two max_three min_three max_four min_four   -- for this text's walks alone
set_option linter.unusedVariables false
set_option linter.unusedSimpArgs false

/-! ### impl_chi_set: function 50 -/
theorem chi_store {P : Program} {ops : Array Oper} {o : Oper} {a : Act} {Q : Exit → Act → World → Prop} {W u0 w0 : World} {Kc : Act → World → Prop} {g j : Nat} {e : TypeId} {cur : Array Value} (hN : o.dst = none) (hw : Region.wanted o (yielded ops a.tmps) = true) (t : TypeId) (p x : Operand) (ho : o.op = .store t p x) (u : Value)
    (haddr : a.eval p = .pointer (some ⟨g, j, none⟩)) (hx : a.eval x = u) (hu : u.cells.toList = [u]) (ht : (P.info? t).map (·.size) = some 1) (h1 : u.oneCell' = true) (hh : W.heap[g]? = some (.cells cur e (0, 0))) (hj : j < cur.size)
    (hB : Below u0.heap.size u0 W) (hg : u0.heap.size ≤ g) (hK : KeepBut w0 W g none)
    (h : ∀ W1 : World, W1.heap[g]? = some (.cells (cur.setIfInBounds j u) e (0, 0)) → Below u0.heap.size u0 W1 → KeepBut w0 W1 g none → Kc a W1) : if Region.wanted o (yielded ops a.tmps) = true then Oper.wp P o a W Kc Q else Kc (a.put none undef) W := by
  have hrun := run_store_run (P := P) (o := j) t u [u] hh hu ht (by simp; omega) (by simp [h1])
  rw [if_pos hw]
  unfold Oper.wp execOp
  simp only [ho, haddr, hx, Sem.run_bind, Sem.run_pure, Result.andThen_ok, hrun]
  show Kc (a.put o.dst undef) _
  rw [hN]
  exact h _ (blk_set hh j u) (below_set hB hg) (hK.set_ j u)
def chiIx (a b c : Int) : Nat := 1 + a.toNat * 49 + b.toNat * 7 + c.toNat
theorem chiIx_lt {a b c : Int} (ha : 0 ≤ a ∧ a < 7) (hb : 0 ≤ b ∧ b < 7) (hc : 0 ≤ c ∧ c < 7) : chiIx a b c < 344 := by unfold chiIx; omega
def chiSet (cur : Array Value) (i j k : Int) : Array Value := (((((cur.setIfInBounds (chiIx i j k) (.int .i64 1)).setIfInBounds (chiIx j k i) (.int .i64 1)).setIfInBounds (chiIx k i j) (.int .i64 1)).setIfInBounds (chiIx i k j) (.int .i64 (-1))).setIfInBounds (chiIx k j i) (.int .i64 (-1))).setIfInBounds (chiIx j i k) (.int .i64 (-1))
def chiT0 : Bool × List (List Nat × List Nat) := (true, [([], []), ([], []), ([], []), ([], []), ([], []), ([], []), ([], []), ([], []), ([], []), ([], []), ([], []), ([], []), ([], []), ([], []), ([], []), ([0], [0]), ([15], [15]), ([16, 1], [1, 16]), ([17, 2], [2, 17]), ([18, 3, 0, 1, 2, 3, 12], [3, 18]), ([19, 12, 0, 1, 2, 3, 12], [12, 19]), ([4], [4]), ([21], [21]), ([22, 5], [5, 22]), ([23, 6], [6, 23]), ([24, 7, 0, 1, 2, 3, 4, 5, 6, 7, 12, 13, 15, 16, 17, 18, 19, 20], [7, 24]), ([25, 13, 20, 0, 1, 2, 3, 4, 5, 6, 7, 12, 13, 15, 16, 17, 18, 19, 20], [13, 25]), ([8], [8]), ([27], [27]), ([28, 9], [9, 28]), ([29, 10], [10, 29]), ([30, 11, 0, 1, 2, 3, 4, 5, 6, 7, 8, 9, 10, 11, 12, 13, 14, 15, 16, 17, 18, 19, 20, 21, 22, 23, 24, 25, 26], [11, 30]), ([31, 14, 26, 0, 1, 2, 3, 4, 5, 6, 7, 8, 9, 10, 11, 12, 13, 14, 15, 16, 17, 18, 19, 20, 21, 22, 23, 24, 25, 26], [14, 31])])
theorem chi_tab0 : rtab .any (opsOf Try.f50 0) = chiT0 := by kernel_rfl
def chiT1 : Bool × List (List Nat × List Nat) := (true, [([], []), ([], []), ([], []), ([], []), ([], []), ([], []), ([], []), ([], []), ([], []), ([], []), ([], []), ([], []), ([], []), ([12], [12]), ([], []), ([14], [14]), ([], []), ([16], [16]), ([0], [0]), ([18], [18]), ([19, 1], [1, 19]), ([20, 2], [2, 20]), ([21, 3, 0, 1, 2, 3, 12, 13], [3, 21]), ([22, 13, 0, 1, 2, 3, 12, 13], [13, 22]), ([4], [4]), ([24], [24]), ([25, 5], [5, 25]), ([26, 6], [6, 26]), ([27, 7, 0, 1, 2, 3, 4, 5, 6, 7, 12, 13, 14, 15, 18, 19, 20, 21, 22, 23], [7, 27]), ([28, 15, 23, 0, 1, 2, 3, 4, 5, 6, 7, 12, 13, 14, 15, 18, 19, 20, 21, 22, 23], [15, 28]), ([8], [8]), ([30], [30]), ([31, 9], [9, 31]), ([32, 10], [10, 32]), ([33, 11, 0, 1, 2, 3, 4, 5, 6, 7, 8, 9, 10, 11, 12, 13, 14, 15, 16, 17, 18, 19, 20, 21, 22, 23, 24, 25, 26, 27, 28, 29], [11, 33]), ([34, 17, 29, 0, 1, 2, 3, 4, 5, 6, 7, 8, 9, 10, 11, 12, 13, 14, 15, 16, 17, 18, 19, 20, 21, 22, 23, 24, 25, 26, 27, 28, 29], [17, 34])])
theorem chi_tab1 : rtab .any (opsOf Try.f50 1) = chiT1 := by kernel_rfl
set_option maxHeartbeats 4000000 in
set_option maxRecDepth 100000 in
theorem chi_set_calls (u0 w : World) (g : Nat) (e : TypeId) (cur : Array Value) (i j k : Int) (hh : w.heap[g]? = some (.cells cur e (0, 0))) (hs : cur.size = 344) (hB : Below u0.heap.size u0 w) (hg : u0.heap.size ≤ g) (hi : 0 ≤ i ∧ i < 7) (hj : 0 ≤ j ∧ j < 7) (hk : 0 ≤ k ∧ k < 7) :
    Calls Try.prog 50 #[.pointer (some ⟨g, 0, none⟩), .int .i64 i, .int .i64 j, .int .i64 k, .int .i64 1] w fun e' w' => e' = .returned (.tuple #[]) ∧ w'.heap[g]? = some (.cells (chiSet cur i j k) e (0, 0)) ∧ Below u0.heap.size u0 w' ∧ KeepBut w w' g none := by
  have b1 := chiIx_lt hi hj hk
  have b2 := chiIx_lt hj hk hi
  have b3 := chiIx_lt hk hi hj
  have b4 := chiIx_lt hi hk hj
  have b5 := chiIx_lt hk hj hi
  have b6 := chiIx_lt hj hi hk
  have B := Aside0.mk (show chiIx i j k < cur.size ∧ chiIx j k i < cur.size ∧ chiIx k i j < cur.size ∧ chiIx i k j < cur.size ∧ chiIx k j i < cur.size ∧ chiIx j i k < cur.size by rw [hs]; exact ⟨b1, b2, b3, b4, b5, b6⟩)
  have H0 := Aside0.mk hh
  have HB := Aside0.mk hB
  have HG := Aside0.mk hg
  have HK := Aside0.mk (KeepBut.refl w g none)
  clear b1 b2 b3 b4 b5 b6 hh hs hB hg
  have hix58 : ∀ (x : Int), 0 ≤ x ∧ x < 7 → ∀ (W : World) (o : Nat), (Instr.indexAt 58 (.pointer (some ⟨g, o, none⟩)) (.int .i64 x)).run Try.prog W = .ok (.pointer (some ⟨g, o + x.toNat * 49, none⟩)) W := by
    intro x hx W o
    have hu : Try.prog.underlying 58 = some (.array (Try.prog.arrayLen 58) (Try.prog.elem 58)) := by kernel_rfl
    have hl : Try.prog.arrayLen 58 = 7 := by kernel_rfl
    have he : Try.prog.elem 58 = 57 := by kernel_rfl
    have hz : (Try.prog.info? 57).map (·.size) = some 49 := by kernel_rfl
    obtain ⟨inf, hinf, hinfs⟩ := Option.map_eq_some_iff.1 hz
    rw [run_indexAt_array _ _ _ _ _ hu, hl, he]
    simp [sizeOf, typeInfo, hinf, hinfs, Result.andThen, hx.1, hx.2, Addr.add]
  have hix57 : ∀ (x : Int), 0 ≤ x ∧ x < 7 → ∀ (W : World) (o : Nat), (Instr.indexAt 57 (.pointer (some ⟨g, o, none⟩)) (.int .i64 x)).run Try.prog W = .ok (.pointer (some ⟨g, o + x.toNat * 7, none⟩)) W := by
    intro x hx W o
    have hu : Try.prog.underlying 57 = some (.array (Try.prog.arrayLen 57) (Try.prog.elem 57)) := by kernel_rfl
    have hl : Try.prog.arrayLen 57 = 7 := by kernel_rfl
    have he : Try.prog.elem 57 = 56 := by kernel_rfl
    have hz : (Try.prog.info? 56).map (·.size) = some 7 := by kernel_rfl
    obtain ⟨inf, hinf, hinfs⟩ := Option.map_eq_some_iff.1 hz
    rw [run_indexAt_array _ _ _ _ _ hu, hl, he]
    simp [sizeOf, typeInfo, hinf, hinfs, Result.andThen, hx.1, hx.2, Addr.add]
  have hix56 : ∀ (x : Int), 0 ≤ x ∧ x < 7 → ∀ (W : World) (o : Nat), (Instr.indexAt 56 (.pointer (some ⟨g, o, none⟩)) (.int .i64 x)).run Try.prog W = .ok (.pointer (some ⟨g, o + x.toNat, none⟩)) W := by
    intro x hx W o
    have hu : Try.prog.underlying 56 = some (.array (Try.prog.arrayLen 56) (Try.prog.elem 56)) := by kernel_rfl
    have hl : Try.prog.arrayLen 56 = 7 := by kernel_rfl
    have he : Try.prog.elem 56 = 3 := by kernel_rfl
    have hz : (Try.prog.info? 3).map (·.size) = some 1 := by kernel_rfl
    obtain ⟨inf, hinf, hinfs⟩ := Option.map_eq_some_iff.1 hz
    rw [run_indexAt_array _ _ _ _ _ hu, hl, he]
    simp [sizeOf, typeInfo, hinf, hinfs, Result.andThen, hx.1, hx.2, Addr.add]
  have I58i := hix58 i hi
  have I58j := hix58 j hj
  have I58k := hix58 k hk
  have I57i := hix57 i hi
  have I57j := hix57 j hj
  have I57k := hix57 k hk
  have I56i := hix56 i hi
  have I56j := hix56 j hj
  have I56k := hix56 k hk
  clear hix58 hix57 hix56
  go_enter Try.func50, Try.ntmps50
  go_wp2_with fail
  refine start_ (n := 33) (S := fun _ => True) (ds := []) (bm 33 0) (by kernel_rfl) rfl rfl trivial (fun hHeld => ?_); refine with_tab chi_tab0 (fun HT_ => ?_)
  have H0 := Aside0.mk (show w.drew.heap[g]? = some (.cells cur e (0, 0)) from H0.out)
  have HB := Aside0.mk (below_drew1 HB.out)
  have HK := Aside0.mk (show KeepBut w w.drew g none from HK.out)
  generalize w.drew = w26 at H0 HB HK ⊢

  refine plan_ ((0, 0, 10, 1) :: (0, 1, 11, 3) :: (0, 2, 12, 7) :: (0, 3, 13, 15) :: (0, 4, 14, 31) :: (0, 5, 15, 63) :: (0, 6, 16, 127) :: (0, 7, 17, 255) :: (0, 8, 18, 511) :: (0, 9, 19, 1023) :: (0, 10, 20, 2047) :: (0, 11, 21, 4095) :: (0, 12, 22, 8191) :: (0, 13, 23, 16383) :: (0, 14, 24, 32767) :: (0, 15, 25, 65535) :: (0, 16, 26, 131071) :: (0, 17, 27, 262143) :: (0, 18, 28, 524287) :: (0, 19, 29, 1048575) :: (0, 21, 30, 3145727) :: (0, 22, 31, 7340031) :: (0, 23, 32, 15728639) :: (0, 24, 33, 32505855) :: (0, 27, 35, 166723583) :: (0, 28, 36, 435159039) :: (0, 29, 37, 972029951) :: (0, 30, 38, 2045771775) :: []) ?_
  iterate 28 (refine planV_ ?_ ?_ rfl rfl (any_of HT_.out (by kernel_rfl)) (fun _ _ _ h => h) (Or.inl ⟨by rfl, ?_⟩) ?_ ?_; rotate_left 2; (· intro w'; go_simp; with_reducible rfl); (· simp only [Act.put, List.setIfInBounds_toArray, List.set_cons_zero, List.set_cons_succ, i64_w, i32_w]; rfl))
  refine planEnd_ ?_
  refine one_ (i := 20) (N := none) (bm 33 2046820351) rfl rfl (one_of HT_.out (by kernel_rfl)) (by decide) (fun K hK => ?_)
  refine chi_store (u0 := u0) (w0 := w) (g := g) (j := chiIx i j k) rfl (by rfl) 3 (.tmp 29) (.tmp 22) rfl (.int .i64 (1)) rfl (by first | rfl | kernel_rfl | (simp [Act.eval]; done) | (show Value.int .i64 _ = _; congr 1; decide)) rfl (by kernel_rfl) rfl H0.out (by have := B.out; (try simp only [Array.size_setIfInBounds]); omega) HB.out HG.out HK.out (fun W1 hh hb hk_ => ?_)
  have H1 := Aside0.mk hh
  have m1_ := Aside0.mk hb
  have m2_ := Aside0.mk hk_
  clear HB HK hh hb hk_ H0
  have HB := m1_
  have HK := m2_
  clear m1_ m2_
  refine hK.out _ _ trivial (fun hHeld => ?_)
  clear hK K
  refine plan_ ((0, 25, 34, 2080374783) :: []) ?_
  iterate 1 (refine planV_ ?_ ?_ rfl rfl (any_of HT_.out (by kernel_rfl)) (fun _ _ _ h => h) (Or.inl ⟨by rfl, ?_⟩) ?_ ?_; rotate_left 2; (· intro w'; go_simp; with_reducible rfl); (· simp only [Act.put, List.setIfInBounds_toArray, List.set_cons_zero, List.set_cons_succ, i64_w, i32_w]; rfl))
  refine planEnd_ ?_
  refine one_ (i := 26) (N := none) (bm 33 2147483647) rfl rfl (one_of HT_.out (by kernel_rfl)) (by decide) (fun K hK => ?_)
  refine chi_store (u0 := u0) (w0 := w) (g := g) (j := chiIx j k i) rfl (by rfl) 3 (.tmp 34) (.tmp 23) rfl (.int .i64 (1)) rfl (by first | rfl | kernel_rfl | (simp [Act.eval]; done) | (show Value.int .i64 _ = _; congr 1; decide)) rfl (by kernel_rfl) rfl H1.out (by have := B.out; (try simp only [Array.size_setIfInBounds]); omega) HB.out HG.out HK.out (fun W1 hh hb hk_ => ?_)
  have H2 := Aside0.mk hh
  have m1_ := Aside0.mk hb
  have m2_ := Aside0.mk hk_
  clear HB HK hh hb hk_ H1
  have HB := m1_
  have HK := m2_
  clear m1_ m2_
  refine hK.out _ _ trivial (fun hHeld => ?_)
  clear hK K
  refine plan_ ((0, 31, 39, 4294967295) :: []) ?_
  iterate 1 (refine planV_ ?_ ?_ rfl rfl (any_of HT_.out (by kernel_rfl)) (fun _ _ _ h => h) (Or.inl ⟨by rfl, ?_⟩) ?_ ?_; rotate_left 2; (· intro w'; go_simp; with_reducible rfl); (· simp only [Act.put, List.setIfInBounds_toArray, List.set_cons_zero, List.set_cons_succ, i64_w, i32_w]; rfl))
  refine planEnd_ ?_
  refine one_ (i := 32) (N := none) (bm 33 8589934591) rfl rfl (one_of HT_.out (by kernel_rfl)) (by decide) (fun K hK => ?_)
  refine chi_store (u0 := u0) (w0 := w) (g := g) (j := chiIx k i j) rfl (by rfl) 3 (.tmp 39) (.tmp 24) rfl (.int .i64 (1)) rfl (by first | rfl | kernel_rfl | (simp [Act.eval]; done) | (show Value.int .i64 _ = _; congr 1; decide)) rfl (by kernel_rfl) rfl H2.out (by have := B.out; (try simp only [Array.size_setIfInBounds]); omega) HB.out HG.out HK.out (fun W1 hh hb hk_ => ?_)
  have H3 := Aside0.mk hh
  have m1_ := Aside0.mk hb
  have m2_ := Aside0.mk hk_
  clear HB HK hh hb hk_ H2
  have HB := m1_
  have HK := m2_
  clear m1_ m2_
  refine hK.out _ _ trivial (fun hHeld => ?_)
  clear hK K
  refine done_ (done_of HT_.out (by kernel_rfl)) ?_
  clear HT_ hHeld
  go_wp2_with fail
  refine start_ (n := 36) (S := fun _ => True) (ds := []) (bm 36 0) (by kernel_rfl) rfl rfl trivial (fun hHeld => ?_); refine with_tab chi_tab1 (fun HT_ => ?_)
  have H3 := Aside0.mk (show W1.drew.heap[g]? = _ from H3.out)
  have HB := Aside0.mk (below_drew1 HB.out)
  have HK := Aside0.mk (show KeepBut w W1.drew g none from HK.out)
  generalize W1.drew = w27 at H3 HB HK ⊢
  refine plan_ ((0, 0, 40, 1) :: (0, 1, 41, 3) :: (0, 2, 42, 7) :: (0, 3, 43, 15) :: (0, 4, 44, 31) :: (0, 5, 45, 63) :: (0, 6, 46, 127) :: (0, 7, 47, 255) :: (0, 8, 48, 511) :: (0, 9, 49, 1023) :: (0, 10, 50, 2047) :: (0, 11, 51, 4095) :: (0, 12, 52, 8191) :: (0, 13, 53, 16383) :: (0, 14, 54, 32767) :: (0, 15, 55, 65535) :: (0, 16, 56, 131071) :: (0, 17, 57, 262143) :: (0, 18, 58, 524287) :: (0, 19, 59, 1048575) :: (0, 20, 60, 2097151) :: (0, 21, 61, 4194303) :: (0, 22, 62, 8388607) :: (0, 24, 63, 25165823) :: (0, 25, 64, 58720255) :: (0, 26, 65, 125829119) :: (0, 27, 66, 260046847) :: (0, 30, 68, 1333788671) :: (0, 31, 69, 3481272319) :: (0, 32, 70, 7776239615) :: (0, 33, 71, 16366174207) :: []) ?_
  iterate 31 (refine planV_ ?_ ?_ rfl rfl (any_of HT_.out (by kernel_rfl)) (fun _ _ _ h => h) (Or.inl ⟨by rfl, ?_⟩) ?_ ?_; rotate_left 2; (· intro w'; go_simp; with_reducible rfl); (· simp only [Act.put, List.setIfInBounds_toArray, List.set_cons_zero, List.set_cons_succ, i64_w, i32_w]; rfl))
  refine planEnd_ ?_
  refine one_ (i := 23) (N := none) (bm 36 16374562815) rfl rfl (one_of HT_.out (by kernel_rfl)) (by decide) (fun K hK => ?_)
  refine chi_store (u0 := u0) (w0 := w) (g := g) (j := chiIx i k j) rfl (by rfl) 3 (.tmp 62) (.tmp 53) rfl (.int .i64 (-1)) rfl (by first | rfl | kernel_rfl | (simp [Act.eval]; done) | (show Value.int .i64 _ = _; congr 1; decide)) rfl (by kernel_rfl) rfl H3.out (by have := B.out; (try simp only [Array.size_setIfInBounds]); omega) HB.out HG.out HK.out (fun W1 hh hb hk_ => ?_)
  have H4 := Aside0.mk hh
  have m1_ := Aside0.mk hb
  have m2_ := Aside0.mk hk_
  clear HB HK hh hb hk_ H3
  have HB := m1_
  have HK := m2_
  clear m1_ m2_
  refine hK.out _ _ trivial (fun hHeld => ?_)
  clear hK K
  refine plan_ ((0, 28, 67, 16642998271) :: []) ?_
  iterate 1 (refine planV_ ?_ ?_ rfl rfl (any_of HT_.out (by kernel_rfl)) (fun _ _ _ h => h) (Or.inl ⟨by rfl, ?_⟩) ?_ ?_; rotate_left 2; (· intro w'; go_simp; with_reducible rfl); (· simp only [Act.put, List.setIfInBounds_toArray, List.set_cons_zero, List.set_cons_succ, i64_w, i32_w]; rfl))
  refine planEnd_ ?_
  refine one_ (i := 29) (N := none) (bm 36 17179869183) rfl rfl (one_of HT_.out (by kernel_rfl)) (by decide) (fun K hK => ?_)
  refine chi_store (u0 := u0) (w0 := w) (g := g) (j := chiIx k j i) rfl (by rfl) 3 (.tmp 67) (.tmp 55) rfl (.int .i64 (-1)) rfl (by first | rfl | kernel_rfl | (simp [Act.eval]; done) | (show Value.int .i64 _ = _; congr 1; decide)) rfl (by kernel_rfl) rfl H4.out (by have := B.out; (try simp only [Array.size_setIfInBounds]); omega) HB.out HG.out HK.out (fun W1 hh hb hk_ => ?_)
  have H5 := Aside0.mk hh
  have m1_ := Aside0.mk hb
  have m2_ := Aside0.mk hk_
  clear HB HK hh hb hk_ H4
  have HB := m1_
  have HK := m2_
  clear m1_ m2_
  refine hK.out _ _ trivial (fun hHeld => ?_)
  clear hK K
  refine plan_ ((0, 34, 72, 34359738367) :: []) ?_
  iterate 1 (refine planV_ ?_ ?_ rfl rfl (any_of HT_.out (by kernel_rfl)) (fun _ _ _ h => h) (Or.inl ⟨by rfl, ?_⟩) ?_ ?_; rotate_left 2; (· intro w'; go_simp; with_reducible rfl); (· simp only [Act.put, List.setIfInBounds_toArray, List.set_cons_zero, List.set_cons_succ, i64_w, i32_w]; rfl))
  refine planEnd_ ?_
  refine one_ (i := 35) (N := none) (bm 36 68719476735) rfl rfl (one_of HT_.out (by kernel_rfl)) (by decide) (fun K hK => ?_)
  refine chi_store (u0 := u0) (w0 := w) (g := g) (j := chiIx j i k) rfl (by rfl) 3 (.tmp 72) (.tmp 57) rfl (.int .i64 (-1)) rfl (by first | rfl | kernel_rfl | (simp [Act.eval]; done) | (show Value.int .i64 _ = _; congr 1; decide)) rfl (by kernel_rfl) rfl H5.out (by have := B.out; (try simp only [Array.size_setIfInBounds]); omega) HB.out HG.out HK.out (fun W1 hh hb hk_ => ?_)
  have H6 := Aside0.mk hh
  have m1_ := Aside0.mk hb
  have m2_ := Aside0.mk hk_
  clear HB HK hh hb hk_ H5
  have HB := m1_
  have HK := m2_
  clear m1_ m2_
  refine hK.out _ _ trivial (fun hHeld => ?_)
  clear hK K
  refine done_ (done_of HT_.out (by kernel_rfl)) ?_
  clear HT_ hHeld
  go_wp2
  first | go_end0 | go_ret | go_ret2
  exact ⟨rfl, H6.out, HB.out, HK.out⟩

end Go.Proofs.Ytdfnongjbddngaa.P
