/- A part of the proof of FnExactInnerPoints: printed contracts and plain laws, joined by a program of this session. -/
import Derived.Test.YteaagaekdkolnaaZFnExactInnerPoints2
import Derived.Lib.AtoiErrMem
namespace Go.Proofs.Yteaagaekdkolnaa.P
open Go.RowKit Go.Proofs.YteaagaekdkolnaaW.PrintWords Go.Proofs.YteaagaekdkolnaaW.PrintLast Go.Proofs.YteaagaekdkolnaaW.PrintMore
attribute [local go_sem] max2_int min2_int max_two min_two max_three min_three max_four min_four   -- for this text's walks alone
set_option linter.unusedVariables false
set_option linter.unusedSimpArgs false
/-! ### impl_chi_set: function 51 -/
theorem chi_store {P : Program} {ops : Array Oper} {o : Oper} {a : Act} {Q : Exit → Act → World → Prop} {W u0 w0 : World} {Kc : Act → World → Prop} {g j : Nat} {e : TypeId} {cur : Array Value} (hN : o.dst = none) (hw : Region.wanted o (yielded ops a.tmps) = true) (t : TypeId) (p x : Operand) (ho : o.op = .store t p x) (u : Value)
  (haddr : a.eval p = .pointer (some ⟨g, j, none⟩)) (hx : a.eval x = u) (hu : u.cells.toList = [u]) (ht : (P.info? t).map (·.size) = some 1) (h1 : u.oneCell' = true) (hh : W.heap[g]? = some (.cells cur e (0, 0))) (hj : j < cur.size)
  (hB : Below u0.heap.size u0 W) (hg : u0.heap.size ≤ g) (hK : KeepBut w0 W g none)
  (h : ∀ W1 : World, W1.heap[g]? = some (.cells (cur.setIfInBounds j u) e (0, 0)) → Below u0.heap.size u0 W1 → KeepBut w0 W1 g none → Kc a W1) : if Region.wanted o (yielded ops a.tmps) = true then Oper.wp P o a W Kc Q else Kc (a.put none undef) W := by
 have hrun := run_store_run (P := P) (o := j) t u [u] hh hu ht (by simp; omega) (by simp [h1])
 rw [if_pos hw]
 unfold Oper.wp execOp
 simp only [ho, haddr, hx, Sem.run_bind, Sem.run_pure, Result.andThen_ok, hrun]
 show Kc (a.put o.dst undef) _
 rw [hN]
 exact h _ (blk_set hh j u) (below_set hB hg) (hK.set_ j u)
def chiIx (a b c : Int) : Nat := 1 + a.toNat * 49 + b.toNat * 7 + c.toNat
theorem chiIx_lt {a b c : Int} (ha : 0 ≤ a ∧ a < 7) (hb : 0 ≤ b ∧ b < 7) (hc : 0 ≤ c ∧ c < 7) : chiIx a b c < 344 := by unfold chiIx; omega
def chiSetS (cur : Array Value) (i j k s m : Int) : Array Value := (((((cur.setIfInBounds (chiIx i j k) (.int .i64 s)).setIfInBounds (chiIx j k i) (.int .i64 s)).setIfInBounds (chiIx k i j) (.int .i64 s)).setIfInBounds (chiIx i k j) (.int .i64 m)).setIfInBounds (chiIx k j i) (.int .i64 m)).setIfInBounds (chiIx j i k) (.int .i64 m)
def chiT0 : Bool × List (List Nat × List Nat) := (true, [([], []), ([], []), ([], []), ([], []), ([], []), ([], []), ([], []), ([], []), ([], []), ([], []), ([], []), ([], []), ([], []), ([], []), ([], []), ([0], [0]), ([15], [15]), ([16, 1], [1, 16]), ([17, 2], [2, 17]), ([18, 3, 0, 1, 2, 3, 12], [3, 18]), ([19, 12, 0, 1, 2, 3, 12], [12, 19]), ([4], [4]), ([21], [21]), ([22, 5], [5, 22]), ([23, 6], [6, 23]), ([24, 7, 0, 1, 2, 3, 4, 5, 6, 7, 12, 13, 15, 16, 17, 18, 19, 20], [7, 24]), ([25, 13, 20, 0, 1, 2, 3, 4, 5, 6, 7, 12, 13, 15, 16, 17, 18, 19, 20], [13, 25]), ([8], [8]), ([27], [27]), ([28, 9], [9, 28]), ([29, 10], [10, 29]), ([30, 11, 0, 1, 2, 3, 4, 5, 6, 7, 8, 9, 10, 11, 12, 13, 14, 15, 16, 17, 18, 19, 20, 21, 22, 23, 24, 25, 26], [11, 30]), ([31, 14, 26, 0, 1, 2, 3, 4, 5, 6, 7, 8, 9, 10, 11, 12, 13, 14, 15, 16, 17, 18, 19, 20, 21, 22, 23, 24, 25, 26], [14, 31])])
theorem chi_tab0 : rtab .any (opsOf Try.f51 0) = chiT0 := by kernel_rfl
def chiT1 : Bool × List (List Nat × List Nat) := (true, [([], []), ([], []), ([], []), ([], []), ([], []), ([], []), ([], []), ([], []), ([], []), ([], []), ([], []), ([], []), ([], []), ([12], [12]), ([], []), ([14], [14]), ([], []), ([16], [16]), ([0], [0]), ([18], [18]), ([19, 1], [1, 19]), ([20, 2], [2, 20]), ([21, 3, 0, 1, 2, 3, 12, 13], [3, 21]), ([22, 13, 0, 1, 2, 3, 12, 13], [13, 22]), ([4], [4]), ([24], [24]), ([25, 5], [5, 25]), ([26, 6], [6, 26]), ([27, 7, 0, 1, 2, 3, 4, 5, 6, 7, 12, 13, 14, 15, 18, 19, 20, 21, 22, 23], [7, 27]), ([28, 15, 23, 0, 1, 2, 3, 4, 5, 6, 7, 12, 13, 14, 15, 18, 19, 20, 21, 22, 23], [15, 28]), ([8], [8]), ([30], [30]), ([31, 9], [9, 31]), ([32, 10], [10, 32]), ([33, 11, 0, 1, 2, 3, 4, 5, 6, 7, 8, 9, 10, 11, 12, 13, 14, 15, 16, 17, 18, 19, 20, 21, 22, 23, 24, 25, 26, 27, 28, 29], [11, 33]), ([34, 17, 29, 0, 1, 2, 3, 4, 5, 6, 7, 8, 9, 10, 11, 12, 13, 14, 15, 16, 17, 18, 19, 20, 21, 22, 23, 24, 25, 26, 27, 28, 29], [17, 34])])
theorem chi_tab1 : rtab .any (opsOf Try.f51 1) = chiT1 := by kernel_rfl
set_option maxHeartbeats 4000000 in
set_option maxRecDepth 100000 in
theorem chi_setS_calls (u0 w : World) (g : Nat) (e : TypeId) (cur : Array Value) (i j k s : Int) (hh : w.heap[g]? = some (.cells cur e (0, 0))) (hs : cur.size = 344) (hB : Below u0.heap.size u0 w) (hg : u0.heap.size ≤ g) (hi : 0 ≤ i ∧ i < 7) (hj : 0 ≤ j ∧ j < 7) (hk : 0 ≤ k ∧ k < 7) :
  Calls Try.prog 51 #[.pointer (some ⟨g, 0, none⟩), .int .i64 i, .int .i64 j, .int .i64 k, .int .i64 s] w fun e' w' => e' = .returned (.tuple #[]) ∧ w'.heap[g]? = some (.cells (chiSetS cur i j k s (wrap64 (-s))) e (0, 0)) ∧ Below u0.heap.size u0 w' ∧ KeepBut w w' g none := by
 have b1 := chiIx_lt hi hj hk
 have b2 := chiIx_lt hj hk hi
 have b3 := chiIx_lt hk hi hj
 have b4 := chiIx_lt hi hk hj
 have b5 := chiIx_lt hk hj hi
 have b6 := chiIx_lt hj hi hk
 have B := aM_ (show chiIx i j k < cur.size ∧ chiIx j k i < cur.size ∧ chiIx k i j < cur.size ∧ chiIx i k j < cur.size ∧ chiIx k j i < cur.size ∧ chiIx j i k < cur.size by rw [hs]; exact ⟨b1, b2, b3, b4, b5, b6⟩)
 have H0 := aM_ hh
 have HB := aM_ hB
 have HG := aM_ hg
 have HK := aM_ (KeepBut.refl w g none)
 clear b1 b2 b3 b4 b5 b6 hh hs hB hg
 have hix58 : ∀ (x : Int), 0 ≤ x ∧ x < 7 → ∀ (W : World) (o : Nat), (Instr.indexAt 72 (.pointer (some ⟨g, o, none⟩)) (.int .i64 x)).run Try.prog W = .ok (.pointer (some ⟨g, o + x.toNat * 49, none⟩)) W := by
  intro x hx W o
  have hu : Try.prog.underlying 72 = some (.array (Try.prog.arrayLen 72) (Try.prog.elem 72)) := by kernel_rfl
  have hl : Try.prog.arrayLen 72 = 7 := by kernel_rfl
  have he : Try.prog.elem 72 = 71 := by kernel_rfl
  have hz : (Try.prog.info? 71).map (·.size) = some 49 := by kernel_rfl
  obtain ⟨inf, hinf, hinfs⟩ := Option.map_eq_some_iff.1 hz
  rw [run_indexAt_array _ _ _ _ _ hu, hl, he]
  simp [sizeOf, typeInfo, hinf, hinfs, Result.andThen, hx.1, hx.2, Addr.add]
 have hix57 : ∀ (x : Int), 0 ≤ x ∧ x < 7 → ∀ (W : World) (o : Nat), (Instr.indexAt 71 (.pointer (some ⟨g, o, none⟩)) (.int .i64 x)).run Try.prog W = .ok (.pointer (some ⟨g, o + x.toNat * 7, none⟩)) W := by
  intro x hx W o
  have hu : Try.prog.underlying 71 = some (.array (Try.prog.arrayLen 71) (Try.prog.elem 71)) := by kernel_rfl
  have hl : Try.prog.arrayLen 71 = 7 := by kernel_rfl
  have he : Try.prog.elem 71 = 70 := by kernel_rfl
  have hz : (Try.prog.info? 70).map (·.size) = some 7 := by kernel_rfl
  obtain ⟨inf, hinf, hinfs⟩ := Option.map_eq_some_iff.1 hz
  rw [run_indexAt_array _ _ _ _ _ hu, hl, he]
  simp [sizeOf, typeInfo, hinf, hinfs, Result.andThen, hx.1, hx.2, Addr.add]
 have hix56 : ∀ (x : Int), 0 ≤ x ∧ x < 7 → ∀ (W : World) (o : Nat), (Instr.indexAt 70 (.pointer (some ⟨g, o, none⟩)) (.int .i64 x)).run Try.prog W = .ok (.pointer (some ⟨g, o + x.toNat, none⟩)) W := by
  intro x hx W o
  have hu : Try.prog.underlying 70 = some (.array (Try.prog.arrayLen 70) (Try.prog.elem 70)) := by kernel_rfl
  have hl : Try.prog.arrayLen 70 = 7 := by kernel_rfl
  have he : Try.prog.elem 70 = 3 := by kernel_rfl
  have hz : (Try.prog.info? 3).map (·.size) = some 1 := by kernel_rfl
  obtain ⟨inf, hinf, hinfs⟩ := Option.map_eq_some_iff.1 hz
  rw [run_indexAt_array _ _ _ _ _ hu, hl, he]
  simp [sizeOf, typeInfo, hinf, hinfs, Result.andThen, hx.1, hx.2, Addr.add]
 have I58i := hix58 i hi
 have I58j := hix58 j hj
 have I58k := hix58 k hk
 have I57i := hix57 i hi
 have I57j := hix57 j hj
 have I57k := hix57 k hk
 have I56i := hix56 i hi
 have I56j := hix56 j hj
 have I56k := hix56 k hk
 clear hix58 hix57 hix56
 go_enter Try.func51, Try.ntmps51
 go_wp2_with fail
 refine start_ (n := 33) (S := fun _ => True) (ds := []) (bm 33 0) (by kernel_rfl) rfl rfl trivial (fun hHeld => ?_); refine with_tab chi_tab0 (fun HT_ => ?_)
 have H0 := aM_ (show w.drew.heap[g]? = some (.cells cur e (0, 0)) from H0.out)
 have HB := aM_ (bD_ HB.out)
 have HK := aM_ (show KeepBut w w.drew g none from HK.out)
 generalize w.drew = w26 at H0 HB HK ⊢
 refine plan_ ((0, 0, 10, 1) :: (0, 1, 11, 3) :: (0, 2, 12, 7) :: (0, 3, 13, 15) :: (0, 4, 14, 31) :: (0, 5, 15, 63) :: (0, 6, 16, 127) :: (0, 7, 17, 255) :: (0, 8, 18, 511) :: (0, 9, 19, 1023) :: (0, 10, 20, 2047) :: (0, 11, 21, 4095) :: (0, 12, 22, 8191) :: (0, 13, 23, 16383) :: (0, 14, 24, 32767) :: (0, 15, 25, 65535) :: (0, 16, 26, 131071) :: (0, 17, 27, 262143) :: (0, 18, 28, 524287) :: (0, 19, 29, 1048575) :: (0, 21, 30, 3145727) :: (0, 22, 31, 7340031) :: (0, 23, 32, 15728639) :: (0, 24, 33, 32505855) :: (0, 27, 35, 166723583) :: (0, 28, 36, 435159039) :: (0, 29, 37, 972029951) :: (0, 30, 38, 2045771775) :: []) ?_
 iterate 28 (refine planV_ ?_ ?_ rfl rfl (any_of HT_.out (by kernel_rfl)) (fun _ _ _ h => h) (Or.inl ⟨by rfl, ?_⟩) ?_ ?_; rotate_left 2; (· intro w'; go_simp; with_reducible rfl); (· simp only [Act.put, List.setIfInBounds_toArray, List.set_cons_zero, List.set_cons_succ, i64_w, i32_w]; rfl))
 refine planEnd_ ?_
 refine one_ (i := 20) (N := none) (bm 33 2046820351) rfl rfl (one_of HT_.out (by kernel_rfl)) (by decide) (fun K hK => ?_)
 refine chi_store (u0 := u0) (w0 := w) (g := g) (j := chiIx i j k) rfl (by rfl) 3 (.tmp 29) (.tmp 22) rfl (.int .i64 s) rfl (by first | rfl | kernel_rfl | (simp [Act.eval]; done) | (show Value.int .i64 _ = _; congr 1; decide)) rfl (by kernel_rfl) rfl H0.out (by have := B.out; (try simp only [Array.size_setIfInBounds]); omega) HB.out HG.out HK.out (fun W1 hh hb hk_ => ?_)
 have H1 := aM_ hh
 have m1_ := aM_ hb
 have m2_ := aM_ hk_
 clear HB HK hh hb hk_ H0
 have HB := m1_
 have HK := m2_
 clear m1_ m2_
 refine hK.out _ _ trivial (fun hHeld => ?_)
 clear hK K
 refine plan_ ((0, 25, 34, 2080374783) :: []) ?_
 iterate 1 (refine planV_ ?_ ?_ rfl rfl (any_of HT_.out (by kernel_rfl)) (fun _ _ _ h => h) (Or.inl ⟨by rfl, ?_⟩) ?_ ?_; rotate_left 2; (· intro w'; go_simp; with_reducible rfl); (· simp only [Act.put, List.setIfInBounds_toArray, List.set_cons_zero, List.set_cons_succ, i64_w, i32_w]; rfl))
 refine planEnd_ ?_
 refine one_ (i := 26) (N := none) (bm 33 2147483647) rfl rfl (one_of HT_.out (by kernel_rfl)) (by decide) (fun K hK => ?_)
 refine chi_store (u0 := u0) (w0 := w) (g := g) (j := chiIx j k i) rfl (by rfl) 3 (.tmp 34) (.tmp 23) rfl (.int .i64 s) rfl (by first | rfl | kernel_rfl | (simp [Act.eval]; done) | (show Value.int .i64 _ = _; congr 1; decide)) rfl (by kernel_rfl) rfl H1.out (by have := B.out; (try simp only [Array.size_setIfInBounds]); omega) HB.out HG.out HK.out (fun W1 hh hb hk_ => ?_)
 have H2 := aM_ hh
 have m1_ := aM_ hb
 have m2_ := aM_ hk_
 clear HB HK hh hb hk_ H1
 have HB := m1_
 have HK := m2_
 clear m1_ m2_
 refine hK.out _ _ trivial (fun hHeld => ?_)
 clear hK K
 refine plan_ ((0, 31, 39, 4294967295) :: []) ?_
 iterate 1 (refine planV_ ?_ ?_ rfl rfl (any_of HT_.out (by kernel_rfl)) (fun _ _ _ h => h) (Or.inl ⟨by rfl, ?_⟩) ?_ ?_; rotate_left 2; (· intro w'; go_simp; with_reducible rfl); (· simp only [Act.put, List.setIfInBounds_toArray, List.set_cons_zero, List.set_cons_succ, i64_w, i32_w]; rfl))
 refine planEnd_ ?_
 refine one_ (i := 32) (N := none) (bm 33 8589934591) rfl rfl (one_of HT_.out (by kernel_rfl)) (by decide) (fun K hK => ?_)
 refine chi_store (u0 := u0) (w0 := w) (g := g) (j := chiIx k i j) rfl (by rfl) 3 (.tmp 39) (.tmp 24) rfl (.int .i64 s) rfl (by first | rfl | kernel_rfl | (simp [Act.eval]; done) | (show Value.int .i64 _ = _; congr 1; decide)) rfl (by kernel_rfl) rfl H2.out (by have := B.out; (try simp only [Array.size_setIfInBounds]); omega) HB.out HG.out HK.out (fun W1 hh hb hk_ => ?_)
 have H3 := aM_ hh
 have m1_ := aM_ hb
 have m2_ := aM_ hk_
 clear HB HK hh hb hk_ H2
 have HB := m1_
 have HK := m2_
 clear m1_ m2_
 refine hK.out _ _ trivial (fun hHeld => ?_)
 clear hK K
 refine done_ (done_of HT_.out (by kernel_rfl)) ?_
 clear HT_ hHeld
 go_wp2_with fail
 refine start_ (n := 36) (S := fun _ => True) (ds := []) (bm 36 0) (by kernel_rfl) rfl rfl trivial (fun hHeld => ?_); refine with_tab chi_tab1 (fun HT_ => ?_)
 have H3 := aM_ (show W1.drew.heap[g]? = _ from H3.out)
 have HB := aM_ (bD_ HB.out)
 have HK := aM_ (show KeepBut w W1.drew g none from HK.out)
 generalize W1.drew = w27 at H3 HB HK ⊢
 refine plan_ ((0, 0, 40, 1) :: (0, 1, 41, 3) :: (0, 2, 42, 7) :: (0, 3, 43, 15) :: (0, 4, 44, 31) :: (0, 5, 45, 63) :: (0, 6, 46, 127) :: (0, 7, 47, 255) :: (0, 8, 48, 511) :: (0, 9, 49, 1023) :: (0, 10, 50, 2047) :: (0, 11, 51, 4095) :: (0, 12, 52, 8191) :: (0, 13, 53, 16383) :: (0, 14, 54, 32767) :: (0, 15, 55, 65535) :: (0, 16, 56, 131071) :: (0, 17, 57, 262143) :: (0, 18, 58, 524287) :: (0, 19, 59, 1048575) :: (0, 20, 60, 2097151) :: (0, 21, 61, 4194303) :: (0, 22, 62, 8388607) :: (0, 24, 63, 25165823) :: (0, 25, 64, 58720255) :: (0, 26, 65, 125829119) :: (0, 27, 66, 260046847) :: (0, 30, 68, 1333788671) :: (0, 31, 69, 3481272319) :: (0, 32, 70, 7776239615) :: (0, 33, 71, 16366174207) :: []) ?_
 iterate 31 (refine planV_ ?_ ?_ rfl rfl (any_of HT_.out (by kernel_rfl)) (fun _ _ _ h => h) (Or.inl ⟨by rfl, ?_⟩) ?_ ?_; rotate_left 2; (· intro w'; go_simp; with_reducible rfl); (· simp only [Act.put, List.setIfInBounds_toArray, List.set_cons_zero, List.set_cons_succ, i64_w, i32_w]; rfl))
 refine planEnd_ ?_
 refine one_ (i := 23) (N := none) (bm 36 16374562815) rfl rfl (one_of HT_.out (by kernel_rfl)) (by decide) (fun K hK => ?_)
 refine chi_store (u0 := u0) (w0 := w) (g := g) (j := chiIx i k j) rfl (by rfl) 3 (.tmp 62) (.tmp 53) rfl (.int .i64 (wrap64 (-s))) rfl (by first | rfl | kernel_rfl | (simp [Act.eval]; done) | (show Value.int .i64 _ = _; congr 1; decide)) rfl (by kernel_rfl) rfl H3.out (by have := B.out; (try simp only [Array.size_setIfInBounds]); omega) HB.out HG.out HK.out (fun W1 hh hb hk_ => ?_)
 have H4 := aM_ hh
 have m1_ := aM_ hb
 have m2_ := aM_ hk_
 clear HB HK hh hb hk_ H3
 have HB := m1_
 have HK := m2_
 clear m1_ m2_
 refine hK.out _ _ trivial (fun hHeld => ?_)
 clear hK K
 refine plan_ ((0, 28, 67, 16642998271) :: []) ?_
 iterate 1 (refine planV_ ?_ ?_ rfl rfl (any_of HT_.out (by kernel_rfl)) (fun _ _ _ h => h) (Or.inl ⟨by rfl, ?_⟩) ?_ ?_; rotate_left 2; (· intro w'; go_simp; with_reducible rfl); (· simp only [Act.put, List.setIfInBounds_toArray, List.set_cons_zero, List.set_cons_succ, i64_w, i32_w]; rfl))
 refine planEnd_ ?_
 refine one_ (i := 29) (N := none) (bm 36 17179869183) rfl rfl (one_of HT_.out (by kernel_rfl)) (by decide) (fun K hK => ?_)
 refine chi_store (u0 := u0) (w0 := w) (g := g) (j := chiIx k j i) rfl (by rfl) 3 (.tmp 67) (.tmp 55) rfl (.int .i64 (wrap64 (-s))) rfl (by first | rfl | kernel_rfl | (simp [Act.eval]; done) | (show Value.int .i64 _ = _; congr 1; decide)) rfl (by kernel_rfl) rfl H4.out (by have := B.out; (try simp only [Array.size_setIfInBounds]); omega) HB.out HG.out HK.out (fun W1 hh hb hk_ => ?_)
 have H5 := aM_ hh
 have m1_ := aM_ hb
 have m2_ := aM_ hk_
 clear HB HK hh hb hk_ H4
 have HB := m1_
 have HK := m2_
 clear m1_ m2_
 refine hK.out _ _ trivial (fun hHeld => ?_)
 clear hK K
 refine plan_ ((0, 34, 72, 34359738367) :: []) ?_
 iterate 1 (refine planV_ ?_ ?_ rfl rfl (any_of HT_.out (by kernel_rfl)) (fun _ _ _ h => h) (Or.inl ⟨by rfl, ?_⟩) ?_ ?_; rotate_left 2; (· intro w'; go_simp; with_reducible rfl); (· simp only [Act.put, List.setIfInBounds_toArray, List.set_cons_zero, List.set_cons_succ, i64_w, i32_w]; rfl))
 refine planEnd_ ?_
 refine one_ (i := 35) (N := none) (bm 36 68719476735) rfl rfl (one_of HT_.out (by kernel_rfl)) (by decide) (fun K hK => ?_)
 refine chi_store (u0 := u0) (w0 := w) (g := g) (j := chiIx j i k) rfl (by rfl) 3 (.tmp 72) (.tmp 57) rfl (.int .i64 (wrap64 (-s))) rfl (by first | rfl | kernel_rfl | (simp [Act.eval]; done) | (show Value.int .i64 _ = _; congr 1; decide)) rfl (by kernel_rfl) rfl H5.out (by have := B.out; (try simp only [Array.size_setIfInBounds]); omega) HB.out HG.out HK.out (fun W1 hh hb hk_ => ?_)
 have H6 := aM_ hh
 have m1_ := aM_ hb
 have m2_ := aM_ hk_
 clear HB HK hh hb hk_ H5
 have HB := m1_
 have HK := m2_
 clear m1_ m2_
 refine hK.out _ _ trivial (fun hHeld => ?_)
 clear hK K
 refine done_ (done_of HT_.out (by kernel_rfl)) ?_
 clear HT_ hHeld
 go_wp2
 first | go_end0 | go_ret | go_ret2
 exact ⟨rfl, H6.out, HB.out, HK.out⟩
theorem chi_ix58 (g : Nat) (x : Int) (hx : 0 ≤ x ∧ x < 7) (W : World) (o : Nat) : (Instr.indexAt 72 (.pointer (some ⟨g, o, none⟩)) (.int .i64 x)).run Try.prog W = .ok (.pointer (some ⟨g, o + x.toNat * 49, none⟩)) W := by
 have hu : Try.prog.underlying 72 = some (.array (Try.prog.arrayLen 72) (Try.prog.elem 72)) := by kernel_rfl
 have hl : Try.prog.arrayLen 72 = 7 := by kernel_rfl
 have he : Try.prog.elem 72 = 71 := by kernel_rfl
 have hz : (Try.prog.info? 71).map (·.size) = some 49 := by kernel_rfl
 obtain ⟨inf, hinf, hinfs⟩ := Option.map_eq_some_iff.1 hz
 rw [run_indexAt_array _ _ _ _ _ hu, hl, he]
 simp [sizeOf, typeInfo, hinf, hinfs, Result.andThen, hx.1, hx.2, Addr.add]
theorem chi_ix57 (g : Nat) (x : Int) (hx : 0 ≤ x ∧ x < 7) (W : World) (o : Nat) : (Instr.indexAt 71 (.pointer (some ⟨g, o, none⟩)) (.int .i64 x)).run Try.prog W = .ok (.pointer (some ⟨g, o + x.toNat * 7, none⟩)) W := by
 have hu : Try.prog.underlying 71 = some (.array (Try.prog.arrayLen 71) (Try.prog.elem 71)) := by kernel_rfl
 have hl : Try.prog.arrayLen 71 = 7 := by kernel_rfl
 have he : Try.prog.elem 71 = 70 := by kernel_rfl
 have hz : (Try.prog.info? 70).map (·.size) = some 7 := by kernel_rfl
 obtain ⟨inf, hinf, hinfs⟩ := Option.map_eq_some_iff.1 hz
 rw [run_indexAt_array _ _ _ _ _ hu, hl, he]
 simp [sizeOf, typeInfo, hinf, hinfs, Result.andThen, hx.1, hx.2, Addr.add]
theorem chi_ix56 (g : Nat) (x : Int) (hx : 0 ≤ x ∧ x < 7) (W : World) (o : Nat) : (Instr.indexAt 70 (.pointer (some ⟨g, o, none⟩)) (.int .i64 x)).run Try.prog W = .ok (.pointer (some ⟨g, o + x.toNat, none⟩)) W := by
 have hu : Try.prog.underlying 70 = some (.array (Try.prog.arrayLen 70) (Try.prog.elem 70)) := by kernel_rfl
 have hl : Try.prog.arrayLen 70 = 7 := by kernel_rfl
 have he : Try.prog.elem 70 = 3 := by kernel_rfl
 have hz : (Try.prog.info? 3).map (·.size) = some 1 := by kernel_rfl
 obtain ⟨inf, hinf, hinfs⟩ := Option.map_eq_some_iff.1 hz
 rw [run_indexAt_array _ _ _ _ _ hu, hl, he]
 simp [sizeOf, typeInfo, hinf, hinfs, Result.andThen, hx.1, hx.2, Addr.add]
/-! a table of signs as a function -/
def upT (T : Nat → Int) (p : Nat) (v : Int) : Nat → Int := fun m => if m = p then v else T m
theorem chiC_size (n : Int) (T : Nat → Int) : (chiC n T).size = 344 := by simp [chiC]
theorem chiC_at (n : Int) (T : Nat → Int) (p : Nat) (h : p < 343) : (chiC n T)[1 + p]? = some (.int .i64 (T p)) := by
 unfold chiC
 rw [Array.getElem?_append_right (by simp)]
 simp [h]
theorem chiC_zero (n : Int) (T : Nat → Int) : (chiC n T)[0]? = some (.int .i64 n) := by
 unfold chiC
 rw [Array.getElem?_append_left (by simp)]
 rfl
theorem chiC_put (n : Int) (T : Nat → Int) (p : Nat) (v : Int) (h : p < 343) : (chiC n T).setIfInBounds (1 + p) (.int .i64 v) = chiC n (upT T p v) := by
 apply Array.ext_getElem?
 intro q
 rw [Array.getElem?_setIfInBounds]
 by_cases hq : 1 + p = q
 ·subst hq
  rw [if_pos rfl, if_pos (by rw [chiC_size]; omega), chiC_at _ _ _ h]
  simp [upT]
 ·rw [if_neg hq]
  by_cases h0 : q = 0
  ·subst h0; rw [chiC_zero, chiC_zero]
  ·obtain ⟨m, rfl⟩ : ∃ m, q = 1 + m := ⟨q - 1, by omega⟩
   by_cases hm : m < 343
   ·rw [chiC_at _ _ _ hm, chiC_at _ _ _ hm]
    unfold upT
    rw [if_neg (by omega)]
   ·rw [Array.getElem?_eq_none (by rw [chiC_size]; omega), Array.getElem?_eq_none (by rw [chiC_size]; omega)]
def tix (a b c : Int) : Nat := a.toNat * 49 + b.toNat * 7 + c.toNat
theorem tix_lt {a b c : Int} (ha : 0 ≤ a ∧ a < 7) (hb : 0 ≤ b ∧ b < 7) (hc : 0 ≤ c ∧ c < 7) : tix a b c < 343 := by unfold tix; omega
theorem tix_ix (a b c : Int) : chiIx a b c = 1 + tix a b c := by unfold chiIx tix; omega
def setT (T : Nat → Int) (i j k s : Int) : Nat → Int := upT (upT (upT (upT (upT (upT T (tix i j k) s) (tix j k i) s) (tix k i j) s) (tix i k j) (wrap64 (-s))) (tix k j i) (wrap64 (-s))) (tix j i k) (wrap64 (-s))
theorem chiC_setT (n : Int) (T : Nat → Int) (i j k s : Int) (hi : 0 ≤ i ∧ i < 7) (hj : 0 ≤ j ∧ j < 7) (hk : 0 ≤ k ∧ k < 7) : chiSetS (chiC n T) i j k s (wrap64 (-s)) = chiC n (setT T i j k s) := by
 unfold chiSetS setT
 simp only [tix_ix]
 rw [chiC_put _ _ _ _ (tix_lt hi hj hk), chiC_put _ _ _ _ (tix_lt hj hk hi), chiC_put _ _ _ _ (tix_lt hk hi hj), chiC_put _ _ _ _ (tix_lt hi hk hj), chiC_put _ _ _ _ (tix_lt hk hj hi), chiC_put _ _ _ _ (tix_lt hj hi hk)]
theorem chi_setT_calls (u0 w : World) (g : Nat) (n : Int) (T : Nat → Int) (i j k s : Int) (hI : IsS74 u0 w g n T) (hB : Below u0.heap.size u0 w) (hi : 0 ≤ i ∧ i < 7) (hj : 0 ≤ j ∧ j < 7) (hk : 0 ≤ k ∧ k < 7) :
  Calls Try.prog 51 #[.pointer (some ⟨g, 0, none⟩), .int .i64 i, .int .i64 j, .int .i64 k, .int .i64 s] w fun e' w' => e' = .returned (.tuple #[]) ∧ IsS74 u0 w' g n (setT T i j k s) ∧ Below u0.heap.size u0 w' ∧ KeepBut w w' g none := by
 refine (chi_setS_calls u0 w g _ (chiC n T) i j k s hI.1 (chiC_size n T) hB hI.2 hi hj hk).mono ?_
 rintro e' w' ⟨he, hh, hb, hk'⟩
 exact ⟨he, ⟨by rw [← chiC_setT n T i j k s hi hj hk]; exact hh, hI.2⟩, hb, hk'⟩
theorem chi_at7 {w : World} {w0 : World} {g : Nat} {n : Int} {T : Nat → Int} (hI : IsS74 w0 w g n T) : ∀ a b c : Int, 0 ≤ a ∧ a < 7 → 0 ≤ b ∧ b < 7 → 0 ≤ c ∧ c < 7 → w.cell? ⟨g, 1 + a.toNat * 49 + b.toNat * 7 + c.toNat, none⟩ = some (.int .i64 (T (a.toNat * 49 + b.toNat * 7 + c.toNat))) := by
 intro a b c ha hb hc
 have h := chiC_at n T (tix a b c) (tix_lt ha hb hc)
 rw [← tix_ix] at h
 exact (blk_cell hI.1 _).trans h
end Go.Proofs.Yteaagaekdkolnaa.P

namespace Go.Proofs.Yteaagaekdkolnaa.P
open Go.RowKit Go.Proofs.YteaagaekdkolnaaW.PrintWords Go.Proofs.YteaagaekdkolnaaW.PrintLast Go.Proofs.YteaagaekdkolnaaW.PrintMore
attribute [local go_sem] max2_int min2_int max_two min_two max_three min_three max_four min_four   -- for this text's walks alone
set_option linter.unusedVariables false
set_option linter.unusedSimpArgs false
/-! ### impl_chi_signs: function 52 -/
def sgnB (T : Nat → Int) (t : S52) : Int := if T (tix t.f0 t.f1 t.f2) > 0 then 43 else 45
def chiAsc (t : S52) : Prop := 0 ≤ t.f0 ∧ t.f0 < t.f1 ∧ t.f1 < t.f2 ∧ t.f2 < 7
theorem chi_store2 {P : Program} {ops : Array Oper} {o : Oper} {a : Act} {Q : Exit → Act → World → Prop} {W : World} {Kc : Act → World → Prop} {g : Nat} {e : TypeId} {cur : Array Value} (hN : o.dst = none) (hw : Region.wanted o (yielded ops a.tmps) = true) (t : TypeId) (p x : Operand) (ho : o.op = .store t p x) (u u1 u2 : Value)
  (haddr : a.eval p = .pointer (some ⟨g, 0, none⟩)) (hx : a.eval x = u) (hu : u.cells.toList = [u1, u2]) (ht : (P.info? t).map (·.size) = some 2) (h1 : ∀ q ∈ [u1, u2], q.oneCell' = true) (hh : W.heap[g]? = some (.cells cur e (0, 0))) (hj : 2 ≤ cur.size)
  (h : Kc a ((W.setCell ⟨g, 0, none⟩ u1).setCell ⟨g, 1, none⟩ u2)) : if Region.wanted o (yielded ops a.tmps) = true then Oper.wp P o a W Kc Q else Kc (a.put none undef) W := by
 have hrun := run_store_run (P := P) (o := 0) t u [u1, u2] hh hu ht (by simpa using hj) h1
 rw [if_pos hw]
 unfold Oper.wp execOp
 simp only [ho, haddr, hx, Sem.run_bind, Sem.run_pure, Result.andThen_ok, hrun]
 show Kc (a.put o.dst undef) _
 rw [hN]
 exact h
def chiT5 : Bool × List (List Nat × List Nat) := (true, [([], []), ([], []), ([1], [1]), ([], []), ([3], [3]), ([], []), ([5], [5]), ([0], [0]), ([7], [7]), ([8, 2], [2, 8]), ([9, 4], [4, 9]), ([10, 6], [6, 10]), ([11], [11]), ([12], [12])])
def chiB5 : List Nat := [0, 0, 2, 0, 8, 0, 32, 1, 129, 391, 927, 2047, 4095, 8191]
theorem chi_tab5 : rtab .any (opsOf Try.f52 5) = chiT5 := by kernel_rfl
theorem chi_bits5 : waitsOk chiT5.2 chiB5 = true := by kernel_rfl
def chiT9 : Bool × List (List Nat × List Nat) := (true, [([], []), ([0], [0]), ([1], [1]), ([2], [2]), ([], []), ([4], [4]), ([3, 5], [3, 5]), ([6, 0, 1, 2, 3, 4, 5, 6], [6])])
def chiB9 : List Nat := [0, 1, 3, 7, 0, 16, 63, 127]
theorem chi_tab9 : rtab .any (opsOf Try.f52 9) = chiT9 := by kernel_rfl
theorem chi_bits9 : waitsOk chiT9.2 chiB9 = true := by kernel_rfl
theorem chi_info5 : (Try.prog.info? 5).map (fun i => (i.zero, i.size, i.bytes)) = some (some (.int .u8 0), 1, 1) := by kernel_rfl
set_option maxHeartbeats 8000000 in
set_option maxRecDepth 100000 in
theorem chi_signsT_calls (K : Nat) (w0 w : World) (g : Nat) (n : Int) (T : Nat → Int) (r : List S52) (hr : impl_triplesOf.f K n = some r) (hlen : r.length ≤ 35) (hasc : ∀ t ∈ r, chiAsc t) (hI : IsS74 w0 w g n T) :
  Calls Try.prog 52 #[.pointer (some ⟨g, 0, none⟩)] w fun e' w' => e' = .returned (.agg #[.int .i64 n, .string (strOfNums (r.map (sgnB T)))]) ∧ Below w.heap.size w w' := by
 have hu75 := Try.underlying52
 have HB := aM_ (Below.refl w.heap.size w)
 have HH := aM_ (show ∀ w' : World, Below w.heap.size w w' → w'.heap[g]? = some (.cells (chiC n T) 74 (0, 0)) from fun w' h => blk_below hI.1 h)
 have HR := aM_ hr
 have HC := aM_ (chiC_zero n T)
 have HL := aM_ hlen
 have HA := aM_ hasc
 have H1 := aM_ (show ∀ a b c : Int, 0 ≤ a ∧ a < 7 → 0 ≤ b ∧ b < 7 → 0 ≤ c ∧ c < 7 → (chiC n T)[1 + a.toNat * 49 + b.toNat * 7 + c.toNat]? = some (.int .i64 (T (tix a b c))) from fun a b c h1 h2 h3 => by
  have h := chiC_at n T (tix a b c) (tix_lt h1 h2 h3)
  rw [← tix_ix] at h
  exact h)
 clear hr hlen hasc hI
 go_enter Try.func52, Try.ntmps52
 go_wp2_with (first | ((with_reducible refine gate_dst (N := 2) rfl ?_); refine box_event ?hg (N := 2) ?hd (cs := #[.int .i64 0, .string (⟨#[]⟩ : ByteArray)]) (t := 44) ?hr ?_; (case hd => rfl); (case hg => rfl); (case hr => first | (go_simp; done) | (go_simp; rfl)); intro gb101 hg w4 hbox hb; have n0_ := aM_ (below_step (by repeat (first | (with_reducible first | exact HB.out | apply bA_ | apply bN_ | apply bD_) | exact HB.out)) hb); have n1_ := aM_ (hbox); have n3_ := aM_ ((by rw [hg]; exact (below_size (by repeat (first | (with_reducible first | exact HB.out | apply bA_ | apply bN_ | apply bD_) | exact HB.out))) : w.heap.size ≤ gb101)); clear HB; have HB := n0_; have BK101 := n1_; have GE101 := n3_; clear n0_ n1_ n3_; clear hb hbox hg; have hcz0 : w4.cell? ⟨g, 0, none⟩ = some (.int .i64 n) := (blk_cell (HH.out _ HB.out) 0).trans HC.out) | ((with_reducible refine gate_callee (f := 27) rfl ?_); refine goesL_ (some 10) rfl rfl Try.func27 (by kernel_rfl) rfl #[.int .i64 n] rfl (by (try simp only [List.map_toArray, List.map_cons, List.map_nil]); first | done | rfl | (simp only [List.length_drop, List.length_take]; rfl)) ?_; (with_reducible refine (impl_triplesOf.calls K n r _ HR.out).mono ?_); rintro e w3 ⟨v102, rfl, ho0, hb⟩; refine ⟨_, rfl, ?_⟩; have n0_ := aM_ (Kd.R_lower ho0 (below_size (by repeat (first | (with_reducible first | exact HB.out | apply bA_ | apply bN_ | apply bD_) | exact HB.out)))); have n1_ := aM_ (below_step (by repeat (first | (with_reducible first | exact HB.out | apply bA_ | apply bN_ | apply bD_) | exact HB.out)) hb); have n2_ := aM_ (blk_below (g := gb101) (o := .cells #[.int .i64 0, .string (⟨#[]⟩ : ByteArray)] 44 (0, 0)) (by (with_reducible repeat (first | refine blk_drewN ?_ _ | refine blk_drew ?_ | refine blk_alloc ?_ _)); exact BK101.out) hb); clear HB BK101 hcz0; have HO_8 := n0_; have HB := n1_; have BK101 := n2_; clear n0_ n1_ n2_ hb ho0; obtain ⟨Ao4, co4, eo4⟩ := Kd.R_slice HO_8.out; subst eo4))
 go_loopg [3, 12] r.length (fun kq v3 v12 w' => ∃ (x : Int) (ix : Nat) (tx : List Int), v12 = .int .i64 x ∧ Aside0 (x = (ix : Int)) ∧ Aside0 (kq + ix = r.length) ∧ Aside0 (tx = (r.take ix).map (sgnB T)) ∧ Aside0 (w'.heap[gb101]? = some (.cells #[.int .i64 0, .string (⟨#[]⟩ : ByteArray)] 44 (0, 0))) ∧ Aside0 (Kd.R (Kd.int .u8) 5 w' w.heap.size (fun _ => True) v3 tx) ∧ Aside0 (Kd.R k52 52 w' w.heap.size (fun _ => True) (.slice Ao4 r.length co4) r) ∧ Aside0 (Below w.heap.size w w'))
 case atStart => exact ⟨0, 0, [], rfl, ⟨rfl⟩, ⟨rfl⟩, ⟨rfl⟩, ⟨BK101.out⟩, ⟨Kd.R_nil _ _ _ _ _⟩, HO_8, HB⟩
 case round =>
  clear BK101 HO_8 HB
  obtain ⟨x, ix, tx, rfl, HX, HK1, HT, BK101, HO_3, HO_8, HB⟩ := hrel
  by_cases c5 : x < (r.length : Int)
  ·have c5b0 : decide (x < (r.length : Int)) = true := decide_eq_true c5
   have hx := HX.out
   have p104 : 0 ≤ x := by omega
   have q104 := c5
   have hixn : ix < r.length := by omega
   have hrd : rd_T52 r x = r[ix] := by rw [hx]; simp [rd_T52, hixn]
   have hmem : rd_T52 r x ∈ r := by rw [hrd]; exact List.getElem_mem hixn
   have HASC := aM_ (HA.out _ hmem)
   have HSG := aM_ (show (r.take (ix + 1)).map (sgnB T) = (r.take ix).map (sgnB T) ++ [sgnB T (rd_T52 r x)] by rw [List.take_add_one, List.getElem?_eq_getElem hixn, hrd, List.map_append]; rfl)
   have HIX := aM_ hixn
   have HW : wrap64 (x + 1) = ((ix + 1 : Nat) : Int) := by have := HL.out; unfold wrap64; omega
   have HW := aM_ HW
   clear c5 hrd hmem hixn hx
   obtain ⟨ad104, e104, hx104_0, hx104_1, hx104_2⟩ := at_T52 (Kd.R_reads' HO_8.out).2.2 x p104 q104
   cases e104
   replace p104 := eq_true p104
   replace q104 := eq_true q104
   go_wp2_with ((with_reducible refine gate_dst (N := 5) rfl ?_); refine box_event ?hg (N := 5) ?hd (cs := #[.int .i64 0, .int .i64 0, .int .i64 0]) (t := 52) ?hr ?_; (case hd => rfl); (case hg => rfl); (case hr => first | (go_simp; done) | (go_simp; rfl)); intro gb105 hg w8 hbox hb; have n0_ := aM_ (Kd.R_below (Kd.R_elderB (by (with_reducible repeat (first | apply kA_ | apply kN_ | apply kD_)); exact HO_3.out) gb105 (Nat.le_of_eq hg.symm)) hb); have n1_ := aM_ (Kd.R_below (Kd.R_elderB (by (with_reducible repeat (first | apply kA_ | apply kN_ | apply kD_)); exact HO_8.out) gb105 (Nat.le_of_eq hg.symm)) hb); have n2_ := aM_ (below_step (by repeat (first | (with_reducible first | exact HB.out | apply bA_ | apply bN_ | apply bD_) | exact HB.out)) hb); have n3_ := aM_ (hbox); have n4_ := aM_ (show gb105 ≠ gb101 by have := blk_lt BK101.out; rw [hg]; show _ ≠ gb101; exact Nat.ne_of_gt this); have n5_ := aM_ ((by rw [hg]; exact (below_size (by repeat (first | (with_reducible first | exact HB.out | apply bA_ | apply bN_ | apply bD_) | exact HB.out))) : w.heap.size ≤ gb105)); have n6_ := aM_ (blk_below (g := gb101) (o := .cells #[.int .i64 0, .string (⟨#[]⟩ : ByteArray)] 44 (0, 0)) (by (with_reducible repeat (first | refine blk_drewN ?_ _ | refine blk_drew ?_ | refine blk_alloc ?_ _)); exact BK101.out) hb); clear HO_3; clear HO_8; clear HB; clear BK101; have HO_3 := n0_; have HO_8 := n1_; have HB := n2_; have BK105 := n3_; have GW105 := n4_; have GE105 := n5_; have BK101 := n6_; clear n0_ n1_ n2_ n3_ n4_ n5_ n6_; clear hb hbox hg; have hcz9_0 : w8.cell? ⟨gb105, 0, none⟩ = some (.int .i64 0) := (blk_cell BK105.out 0).trans rfl; have hcz9_1 : w8.cell? ⟨gb105, 1, none⟩ = some (.int .i64 0) := (blk_cell BK105.out 1).trans rfl; have hcz9_2 : w8.cell? ⟨gb105, 2, none⟩ = some (.int .i64 0) := (blk_cell BK105.out 2).trans rfl; have hfz9_0 := blk_frozen BK105.out 0; have hfz9_1 := blk_frozen BK105.out 1; have hfz9_2 := blk_frozen BK105.out 2)
   have hN := Ne.symm GW105.out
   have T75 := aM_ (show (((w8.setCell ⟨gb105, 0, none⟩ (.int .i64 (rd_T52 r x).f0)).setCell ⟨gb105, 1, none⟩ (.int .i64 (rd_T52 r x).f1)).setCell ⟨gb105, 2, none⟩ (.int .i64 (rd_T52 r x).f2)).heap[gb105]? = some (.cells #[.int .i64 (rd_T52 r x).f0, .int .i64 (rd_T52 r x).f1, .int .i64 (rd_T52 r x).f2] 52 (0, 0)) by
    refine blk_put (cs := #[.int .i64 (rd_T52 r x).f0, .int .i64 (rd_T52 r x).f1, .int .i64 0]) ?_ 2 _ rfl
    refine blk_put (cs := #[.int .i64 (rd_T52 r x).f0, .int .i64 0, .int .i64 0]) ?_ 1 _ rfl
    refine blk_put (cs := #[.int .i64 0, .int .i64 0, .int .i64 0]) ?_ 0 _ rfl
    exact BK105.out)
   have m1_ := aM_ ((Below.heap_setCell (w8.setCell ⟨gb105, 0, none⟩ (.int .i64 (rd_T52 r x).f0) |>.setCell ⟨gb105, 1, none⟩ (.int .i64 (rd_T52 r x).f1)) ⟨gb105, 2, none⟩ (.int .i64 (rd_T52 r x).f2) gb101 hN).trans ((Below.heap_setCell _ _ _ _ hN).trans ((Below.heap_setCell _ _ _ _ hN).trans BK101.out)))
   have m2_ := aM_ (below_set (v := (.int .i64 (rd_T52 r x).f2)) (j := 2) (below_set (v := (.int .i64 (rd_T52 r x).f1)) (j := 1) (below_set (v := (.int .i64 (rd_T52 r x).f0)) (j := 0) HB.out GE105.out) GE105.out) GE105.out)
   have m3_ := aM_ (Kd.R_far (p := ⟨gb105, 2, none⟩) (Kd.R_far (p := ⟨gb105, 1, none⟩) (Kd.R_far (p := ⟨gb105, 0, none⟩) HO_3.out (fun _ hk => hk.2) (.int .i64 ((rd_T52 r x).f0))) (fun _ hk => hk.2) (.int .i64 ((rd_T52 r x).f1))) (fun _ hk => hk.2) (.int .i64 ((rd_T52 r x).f2)))
   have m4_ := aM_ (Kd.R_far (p := ⟨gb105, 2, none⟩) (Kd.R_far (p := ⟨gb105, 1, none⟩) (Kd.R_far (p := ⟨gb105, 0, none⟩) HO_8.out (fun _ hk => hk.2) (.int .i64 ((rd_T52 r x).f0))) (fun _ hk => hk.2) (.int .i64 ((rd_T52 r x).f1))) (fun _ hk => hk.2) (.int .i64 ((rd_T52 r x).f2)))
   clear BK101 HB HO_3 HO_8 BK105 hcz9_0 hcz9_1 hcz9_2 hfz9_0 hfz9_1 hfz9_2 hx104_0 hx104_1 hx104_2 hN
   generalize ((w8.setCell ⟨gb105, 0, none⟩ (.int .i64 (rd_T52 r x).f0)).setCell ⟨gb105, 1, none⟩ (.int .i64 (rd_T52 r x).f1)).setCell ⟨gb105, 2, none⟩ (.int .i64 (rd_T52 r x).f2) = wA at T75 m1_ m2_ m3_ m4_ ⊢
   have BK101 := m1_
   have HB := m2_
   have HO_3 := aM_ (kD_ (Kd.R_mono (ok' := fun _ => True) m3_.out (fun _ _ => trivial)))
   have HO_8 := aM_ (kD_ (Kd.R_mono (ok' := fun _ => True) m4_.out (fun _ _ => trivial)))
   clear m1_ m2_ m3_ m4_
   have hA := HASC.out
   unfold chiAsc at hA
   have I58 := chi_ix58 g (rd_T52 r x).f0 (by omega)
   have I57 := chi_ix57 g (rd_T52 r x).f1 (by omega)
   have I56 := chi_ix56 g (rd_T52 r x).f2 (by omega)
   have hone := H1.out (rd_T52 r x).f0 (rd_T52 r x).f1 (rd_T52 r x).f2 (by omega) (by omega) (by omega)
   obtain ⟨v, hv⟩ : ∃ v, T (tix (rd_T52 r x).f0 (rd_T52 r x).f1 (rd_T52 r x).f2) = v := ⟨_, rfl⟩
   rw [hv] at hone
   have HONE := aM_ hone
   have HV := aM_ (show sgnB T (rd_T52 r x) = if v > 0 then 43 else 45 by unfold sgnB; rw [hv])
   clear hA hone hv
   refine start_ (n := 14) (S := fun w' => w'.cell? ⟨gb105, 0, none⟩ = some (.int .i64 (rd_T52 r x).f0) ∧ w'.cell? ⟨gb105, 1, none⟩ = some (.int .i64 (rd_T52 r x).f1) ∧ w'.cell? ⟨gb105, 2, none⟩ = some (.int .i64 (rd_T52 r x).f2) ∧ w'.cell? ⟨g, 1 + (rd_T52 r x).f0.toNat * 49 + (rd_T52 r x).f1.toNat * 7 + (rd_T52 r x).f2.toNat, none⟩ = some (.int .i64 v)) (ds := []) (bm 14 0) (by kernel_rfl) rfl rfl ⟨(blk_cell (w := wA) T75.out 0).trans rfl, (blk_cell (w := wA) T75.out 1).trans rfl, (blk_cell (w := wA) T75.out 2).trans rfl, (blk_cell (w := wA) (HH.out wA HB.out) _).trans HONE.out⟩ (fun hHeld => ?_); refine with_tabW chi_tab5 chi_bits5 (fun HT_ HW_ => ?_)
   have HB := aM_ (bD_ HB.out)
   have BK101 := aM_ (show wA.drew.heap[gb101]? = _ from BK101.out)
   clear T75
   generalize wA.drew = wB at HB BK101 HO_3 HO_8 hHeld ⊢
   refine plan_ ((0, 0, 16, 1) :: (0, 1, 17, 3) :: (0, 3, 19, 11) :: (0, 5, 21, 43) :: (0, 7, 23, 171) :: (0, 8, 24, 427) :: (2, 2, 18, 431) :: (2, 4, 20, 447) :: (2, 6, 22, 511) :: (0, 9, 25, 1023) :: (0, 10, 26, 2047) :: (0, 11, 27, 4095) :: (2, 12, 28, 8191) :: (0, 13, 29, 16383) :: []) ?_
   iterate 14 (first | (refine planV_ ?_ ?_ rfl rfl (any_of HT_.out (by kernel_rfl)) (fun _ _ _ h => h) (Or.inl ⟨by rfl, ?_⟩) ?_ ?_; rotate_left 2; (· intro w'; go_simp; with_reducible rfl); (· simp only [Act.put, List.setIfInBounds_toArray, List.set_cons_zero, List.set_cons_succ, i64_w, i32_w]; rfl)) | (refine planT_ ?_ ?_ rfl rfl (take_ofW HT_.out HW_.out (by kernel_rfl)) (fun _ _ _ h => h) (Or.inl ⟨by rfl, ?_⟩) hHeld ?_ ?_; rotate_left 2; (· rintro w' ⟨s0, s1, s2, s3⟩; go_simp; with_reducible rfl); (· simp only [Act.put, List.setIfInBounds_toArray, List.set_cons_zero, List.set_cons_succ, i64_w, i32_w]; rfl)))
   refine planEnd_ ?_
   refine done_ (done_of HT_.out (by kernel_rfl)) ?_
   clear HT_ HW_ hHeld I58 I57 I56
   by_cases cv : v > 0
   ·have HQ := aM_ cv
    have cvb : decide (0 < v) = true := decide_eq_true cv
    rw [cvb]
    clear cv cvb
    go_wp2_with ((with_reducible refine gate_builtin (b := .append) (xs := #[.tmp 30, .tmp 31]) rfl ?_); at_builtin; refine Kd.R_append (Kd.int .u8) (w0 := w) w.heap.size rfl (.tmp 30) (.tmp 31) 82 5 (.int .u8 0) 1 rfl Try.underlying82 chi_info5 rfl (by decide) (by omega) u3 tx 43 [.int .u8 43] (fun _ => True) (fun _ => False) rfl rfl ?aP (fun _ hk => hk.elim) ?aF ?aO ?aB ?aS ?aL ?_; (case aP => exact rfl); (case aB => exact (by repeat (first | (with_reducible first | exact HB.out | apply bA_ | apply bN_ | apply bD_) | exact HB.out))); (case aF => exact (fun _ _ => trivial)); (case aO => exact (by (with_reducible repeat (first | apply kA_ | apply kN_ | apply kD_)); exact HO_3.out)); (case aS => exact (below_size (by repeat (first | (with_reducible first | exact HB.out | apply bA_ | apply bN_ | apply bD_) | exact HB.out)))); (case aL => have h1 := HL.out; have h2 := HIX.out; rw [HT.out, List.length_map, List.length_take]; omega); intro v102 w7 ho hb hg hat; have n0_ := aM_ (Kd.R_over' (by (with_reducible repeat (first | apply kA_ | apply kN_ | apply kD_)); exact HO_8.out) (Kd.R_typed (by (with_reducible repeat (first | apply kA_ | apply kN_ | apply kD_)); exact HO_3.out)) (by decide) hg); have n1_ := aM_ (blk_grown (g := gb101) (o := .cells #[.int .i64 0, .string (⟨#[]⟩ : ByteArray)] 44 (0, 0)) (by (with_reducible repeat (first | refine blk_drewN ?_ _ | refine blk_drew ?_ | refine blk_alloc ?_ _)); exact BK101.out) hg (Kd.R_ne HO_3.out BK101.out (by decide))); have n2_ := aM_ (hb); have n3_ := aM_ (ho); clear HO_8; clear BK101; clear HB; clear HO_3; have HO_8 := n0_; have BK101 := n1_; have HB := n2_; have HO_3 := n3_; clear n0_ n1_ n2_ n3_; clear ho hb hg hat)
    go_roundg (gk - 1)
    case measure => have := HK1.out; have := HIX.out; omega
    case rel => exact ⟨wrap64 (x + 1), ix + 1, tx ++ [43], (by first | rfl | (simp; done) | (rw [HW.out]; first | rfl | (simp; done))), ⟨HW.out⟩, ⟨by have := HK1.out; have := HIX.out; omega⟩, ⟨by rw [HSG.out, HT.out, HV.out, if_pos (by have := HQ.out; omega)]⟩, ⟨BK101.out⟩, ⟨HO_3.out⟩, ⟨HO_8.out⟩, ⟨HB.out⟩⟩
   ·have HQ := aM_ cv
    have cvb : decide (0 < v) = false := decide_eq_false cv
    rw [cvb]
    clear cv cvb
    go_wp2_with ((with_reducible refine gate_builtin (b := .append) (xs := #[.tmp 33, .tmp 34]) rfl ?_); at_builtin; refine Kd.R_append (Kd.int .u8) (w0 := w) w.heap.size rfl (.tmp 33) (.tmp 34) 82 5 (.int .u8 0) 1 rfl Try.underlying82 chi_info5 rfl (by decide) (by omega) u3 tx 45 [.int .u8 45] (fun _ => True) (fun _ => False) rfl rfl ?aP (fun _ hk => hk.elim) ?aF ?aO ?aB ?aS ?aL ?_; (case aP => exact rfl); (case aB => exact (by repeat (first | (with_reducible first | exact HB.out | apply bA_ | apply bN_ | apply bD_) | exact HB.out))); (case aF => exact (fun _ _ => trivial)); (case aO => exact (by (with_reducible repeat (first | apply kA_ | apply kN_ | apply kD_)); exact HO_3.out)); (case aS => exact (below_size (by repeat (first | (with_reducible first | exact HB.out | apply bA_ | apply bN_ | apply bD_) | exact HB.out)))); (case aL => have h1 := HL.out; have h2 := HIX.out; rw [HT.out, List.length_map, List.length_take]; omega); intro v102 w7 ho hb hg hat; have n0_ := aM_ (Kd.R_over' (by (with_reducible repeat (first | apply kA_ | apply kN_ | apply kD_)); exact HO_8.out) (Kd.R_typed (by (with_reducible repeat (first | apply kA_ | apply kN_ | apply kD_)); exact HO_3.out)) (by decide) hg); have n1_ := aM_ (blk_grown (g := gb101) (o := .cells #[.int .i64 0, .string (⟨#[]⟩ : ByteArray)] 44 (0, 0)) (by (with_reducible repeat (first | refine blk_drewN ?_ _ | refine blk_drew ?_ | refine blk_alloc ?_ _)); exact BK101.out) hg (Kd.R_ne HO_3.out BK101.out (by decide))); have n2_ := aM_ (hb); have n3_ := aM_ (ho); clear HO_8; clear BK101; clear HB; clear HO_3; have HO_8 := n0_; have BK101 := n1_; have HB := n2_; have HO_3 := n3_; clear n0_ n1_ n2_ n3_; clear ho hb hg hat)
    go_roundg (gk - 1)
    case measure => have := HK1.out; have := HIX.out; omega
    case rel => exact ⟨wrap64 (x + 1), ix + 1, tx ++ [45], (by first | rfl | (simp; done) | (rw [HW.out]; first | rfl | (simp; done))), ⟨HW.out⟩, ⟨by have := HK1.out; have := HIX.out; omega⟩, ⟨by rw [HSG.out, HT.out, HV.out, if_neg (by have := HQ.out; omega)]⟩, ⟨BK101.out⟩, ⟨HO_3.out⟩, ⟨HO_8.out⟩, ⟨HB.out⟩⟩
  ·have c5b0 : decide (x < (r.length : Int)) = false := decide_eq_false c5
   have HE := aM_ (show ix = r.length by have := HK1.out; have := HX.out; omega)
   clear c5
   go_wp2_with fail
   have hcv : ∀ w' : World, Kd.R (Kd.int .u8) 5 w' w.heap.size (fun _ => True) u3 tx → (convert 82 9 u3).run Try.prog w' = .ok (.string (strOfNums tx)) w' := fun w' h => own_string (P := Try.prog) Try.underlying82 Try.underlying5 Try.underlying9 (Kd.own_of_R h)
   refine start_ (n := 8) (S := fun w' => w'.cell? ⟨g, 0, none⟩ = some (.int .i64 n) ∧ (convert 82 9 u3).run Try.prog w' = .ok (.string (strOfNums tx)) w') (ds := []) (bm 8 0) (by kernel_rfl) rfl rfl ⟨(blk_cell (HH.out _ HB.out) 0).trans HC.out, hcv _ (kD_ HO_3.out)⟩ (fun hHeld => ?_); refine with_tabW chi_tab9 chi_bits9 (fun HT_ HW_ => ?_)
   have HB := aM_ (bD_ HB.out)
   have BK101 := aM_ (show wr.drew.heap[gb101]? = _ from BK101.out)
   have HO_3 := aM_ (kD_ HO_3.out)
   have HCV := aM_ hcv
   clear hcv HO_8
   generalize wr.drew = wB at HB BK101 HO_3 hHeld ⊢
   refine plan_ ((0, 0, 37, 1) :: (0, 1, 38, 3) :: (0, 2, 39, 7) :: (0, 4, 41, 23) :: (2, 3, 40, 31) :: (2, 5, 42, 63) :: (0, 6, 43, 127) :: []) ?_
   iterate 7 (first | (refine planV_ ?_ ?_ rfl rfl (any_of HT_.out (by kernel_rfl)) (fun _ _ _ h => h) (Or.inl ⟨by rfl, ?_⟩) ?_ ?_; rotate_left 2; (· intro w'; go_simp; with_reducible rfl); (· simp only [Act.put, List.setIfInBounds_toArray, List.set_cons_zero, List.set_cons_succ, i64_w, i32_w]; rfl)) | (refine planT_ ?_ ?_ rfl rfl (take_ofW HT_.out HW_.out (by kernel_rfl)) (fun _ _ _ h => h) (Or.inl ⟨by rfl, ?_⟩) hHeld ?_ ?_; rotate_left 2; (· rintro w' ⟨s0, s1⟩; go_simp; with_reducible rfl); (· simp only [Act.put, List.setIfInBounds_toArray, List.set_cons_zero, List.set_cons_succ, i64_w, i32_w]; rfl)))
   refine planEnd_ ?_
   refine one_ (i := 7) (N := none) (bm 8 255) rfl rfl (one_of HT_.out (by kernel_rfl)) (by decide) (fun K hK => ?_)
   refine chi_store2 (g := gb101) rfl (by rfl) 44 (.tmp 2) (.tmp 43) rfl (.agg #[.int .i64 n, .string (strOfNums tx)]) (.int .i64 n) (.string (strOfNums tx)) rfl rfl rfl (by kernel_rfl) (by intro q hq; simp at hq; rcases hq with rfl | rfl <;> rfl) BK101.out (by decide) ?_
   refine hK.out _ _ ⟨(blk_cell (HH.out _ (below_set (below_set HB.out GE101.out) GE101.out)) 0).trans HC.out, HCV.out _ (Kd.R_mono (Kd.R_far (p := ⟨gb101, 1, none⟩) (Kd.R_far (p := ⟨gb101, 0, none⟩) (Kd.R_types HO_3.out BK101.out (by decide)) (fun _ hk => hk.2) _) (fun _ hk => hk.2) _) (fun _ _ => trivial))⟩ (fun hHeld => ?_)
   clear hK K
   refine done_ (done_of HT_.out (by kernel_rfl)) ?_
   clear HT_ HW_ hHeld
   go_wp2
   refine bodyPost_ret (results_cell_row rfl _ _ gb101 44 #[.int .i64 n, .string (strOfNums tx)] (0, 0) _ rfl (by refine blk_put (cs := #[.int .i64 n, .string (⟨#[]⟩ : ByteArray)]) ?_ 1 _ rfl; refine blk_put (cs := #[.int .i64 0, .string (⟨#[]⟩ : ByteArray)]) ?_ 0 _ rfl; exact BK101.out) Try.underlying44 rfl (by kernel_rfl)) rfl ?_
   exact ⟨by rw [HT.out, HE.out, List.take_length], below_set (below_set HB.out GE101.out) GE101.out⟩
def chiList (n : Int) : List S52 := (impl_triplesOf.f 300 n).getD []
theorem chi_list (n : Int) (h : 3 ≤ n ∧ n ≤ 7) : impl_triplesOf.f 300 n = some (chiList n) ∧ (chiList n).length ≤ 35 ∧ ∀ t ∈ chiList n, chiAsc t := by
 obtain ⟨h1, h2⟩ := h
 have hn : n = 3 ∨ n = 4 ∨ n = 5 ∨ n = 6 ∨ n = 7 := by omega
 have hd : ∀ l : List S52, l.all (fun t => decide (0 ≤ t.f0) && decide (t.f0 < t.f1) && decide (t.f1 < t.f2) && decide (t.f2 < 7)) = true → ∀ t ∈ l, chiAsc t := by
  intro l hl t ht
  have := List.all_eq_true.1 hl t ht
  simp only [Bool.and_eq_true, decide_eq_true_eq] at this
  exact ⟨this.1.1.1, this.1.1.2, this.1.2, this.2⟩
 rcases hn with rfl | rfl | rfl | rfl | rfl
 ·exact ⟨by kernel_rfl, of_decide_eq_true (by kernel_rfl), hd _ (by kernel_rfl)⟩
 ·exact ⟨by kernel_rfl, of_decide_eq_true (by kernel_rfl), hd _ (by kernel_rfl)⟩
 ·exact ⟨by kernel_rfl, of_decide_eq_true (by kernel_rfl), hd _ (by kernel_rfl)⟩
 ·exact ⟨by kernel_rfl, of_decide_eq_true (by kernel_rfl), hd _ (by kernel_rfl)⟩
 ·exact ⟨by kernel_rfl, of_decide_eq_true (by kernel_rfl), hd _ (by kernel_rfl)⟩
end Go.Proofs.Yteaagaekdkolnaa.P

namespace Go.Proofs.Yteaagaekdkolnaa.P
open Go.RowKit Go.Proofs.YteaagaekdkolnaaW.PrintWords Go.Proofs.YteaagaekdkolnaaW.PrintLast Go.Proofs.YteaagaekdkolnaaW.PrintMore
attribute [local go_sem] max2_int min2_int max_two min_two max_three min_three max_four min_four   -- for this text's walks alone
set_option linter.unusedVariables false
set_option linter.unusedSimpArgs false
/-! ### impl_tableOf: function 42 -/
def tabStep (s : ByteArray) (T : Nat → Int) (p : S52 × Nat) : Nat → Int := setT T p.1.f0 p.1.f1 p.1.f2 (if bt s (p.2 : Int) = 45 then -1 else 1)
def tabOf (s : ByteArray) (L : List S52) : Nat → Int := L.zipIdx.foldl (tabStep s) fun _ => 0
def impl_tableOf.f (a0_0 : Int) (a0_1 : ByteArray) : Option (Int × (Nat → Int)) := if (3 ≤ a0_0 ∧ a0_0 ≤ 7) ∧ (chiList a0_0).length ≤ a0_1.size then some (a0_0, tabOf a0_1 (chiList a0_0)) else none
theorem chi_zero_cells : Try.zeroCells74 = chiC 0 (fun _ => 0) := by kernel_rfl
theorem chiC_num (m n : Int) (T : Nat → Int) : (chiC m T).setIfInBounds 0 (.int .i64 n) = chiC n T := by
 apply Array.ext_getElem?
 intro q
 rw [Array.getElem?_setIfInBounds]
 by_cases h0 : 0 = q
 ·subst h0
  rw [if_pos rfl, if_pos (by rw [chiC_size]; omega), chiC_zero]
 ·rw [if_neg h0]
  obtain ⟨p, rfl⟩ : ∃ p, q = 1 + p := ⟨q - 1, by omega⟩
  by_cases hm : p < 343
  ·rw [chiC_at _ _ _ hm, chiC_at _ _ _ hm]
  ·rw [Array.getElem?_eq_none (by rw [chiC_size]; omega), Array.getElem?_eq_none (by rw [chiC_size]; omega)]
theorem chi_fresh (n : Int) : Try.zeroCells74.setIfInBounds 0 (.int .i64 n) = chiC n (fun _ => 0) := by rw [chi_zero_cells, chiC_num]
theorem zip_step {α : Type} (L : List α) (ix : Nat) (h : ix < L.length) : (L.take (ix + 1)).zipIdx = (L.take ix).zipIdx ++ [(L[ix], ix)] := by
 rw [List.take_add_one, List.getElem?_eq_getElem h, List.zipIdx_append]
 simp [Nat.min_eq_left (Nat.le_of_lt h)]
set_option maxHeartbeats 8000000 in
set_option maxRecDepth 100000 in
theorem impl_tableOf.calls (a0_0 : Int) (a0_1 : ByteArray) (r1 : Int) (r2 : Nat → Int) (w0 w : World) (hB : Below w0.heap.size w0 w) (h : impl_tableOf.f a0_0 a0_1 = some (r1, r2)) :
  Calls Try.prog 42 #[.agg #[.int .i64 a0_0, .string a0_1]] w fun e w' => ∃ g, e = .returned (.pointer (some ⟨g, 0, none⟩)) ∧ IsS74 w0 w' g r1 r2 ∧ Below w0.heap.size w0 w' ∧ Below w.heap.size w w' := by
 unfold impl_tableOf.f at h
 by_cases hc : (3 ≤ a0_0 ∧ a0_0 ≤ 7) ∧ (chiList a0_0).length ≤ a0_1.size
 case neg => rw [if_neg hc] at h; cases h
 rw [if_pos hc] at h
 simp only [Option.some.injEq, Prod.mk.injEq] at h
 obtain ⟨rfl, rfl⟩ := h
 suffices hs : Calls Try.prog 42 #[.agg #[.int .i64 a0_0, .string a0_1]] w fun e w' => ∃ g, e = .returned (.pointer (some ⟨g, 0, none⟩)) ∧ IsS74 w w' g a0_0 (tabOf a0_1 (chiList a0_0)) ∧ Below w.heap.size w w' by
  refine hs.mono ?_
  rintro e w' ⟨g, he, hi, hb⟩
  exact ⟨g, he, ⟨hi.1, Nat.le_trans hB.size hi.2⟩, below_step hB hb, hb⟩
 obtain ⟨h37, hsz⟩ := hc
 obtain ⟨hr, hlen, hasc⟩ := chi_list a0_0 h37
 have hu75 := Try.underlying52
 have hus := Try.underlying44
 have HR := aM_ hr
 have HSZ := aM_ hsz
 have HL := aM_ hlen
 have HA := aM_ hasc
 obtain ⟨gS, hgS⟩ : ∃ gS, w.heap.size = gS := ⟨_, rfl⟩
 have HGS := aM_ hgS
 clear h37 hB hr hsz hlen hasc
 go_enter Try.func42, Try.ntmps42
 go_wp2_with fail
 have hB0 := bA_ (bA_ (Below.refl w.heap.size w) (.cells #[.int .i64 a0_0, .string a0_1] 44)) (.cells (Try.zeroCells74.setIfInBounds 0 (.int .i64 a0_0)) 74)
 have hbs : ((w.alloc (.cells #[.int .i64 a0_0, .string a0_1] 44)).alloc (.cells (Try.zeroCells74.setIfInBounds 0 (.int .i64 a0_0)) 74)).heap[gS]? = some (.cells #[.int .i64 a0_0, .string a0_1] 44 (0, 0)) := by
  rw [← HGS.out]
  exact blk_alloc (blk_new w _) _
 have hsz1 : (w.alloc (.cells #[.int .i64 a0_0, .string a0_1] 44)).heap.size = gS + 1 := by rw [← HGS.out]; show (w.heap.push _).size = _; rw [Array.size_push]
 have hch : ((w.alloc (.cells #[.int .i64 a0_0, .string a0_1] 44)).alloc (.cells (Try.zeroCells74.setIfInBounds 0 (.int .i64 a0_0)) 74)).heap[gS + 1]? = some (.cells (chiC a0_0 (fun _ => 0)) 74 (0, 0)) := by
  rw [← hsz1, ← chi_fresh]
  exact blk_new (w.alloc (.cells #[.int .i64 a0_0, .string a0_1] 44)) _
 obtain ⟨g, hg⟩ : ∃ g, gS + 1 = g := ⟨_, rfl⟩
 rw [hg] at hch ⊢
 have HGG := aM_ (show gS ≠ g by omega)
 have HB := aM_ hB0
 have BS := aM_ hbs
 have HI0 := aM_ (show IsS74 w _ g a0_0 (fun _ => 0) from ⟨hch, by have := HGS.out; omega⟩)
 generalize (w.alloc (.cells #[.int .i64 a0_0, .string a0_1] 44)).alloc (.cells (Try.zeroCells74.setIfInBounds 0 (.int .i64 a0_0)) 74) = wC at HB BS HI0 ⊢
 clear hB0 hbs hsz1 hch hg
 (with_reducible refine (impl_triplesOf.calls 300 a0_0 (chiList a0_0) _ HR.out).mono ?_)
 rintro e w3 ⟨v102, rfl, ho0, hb⟩
 have HO_8 := aM_ (Kd.R_lower ho0 (below_size HB.out))
 have n1_ := aM_ (below_step HB.out hb)
 have n2_ := aM_ (blk_below BS.out hb)
 have n3_ := aM_ (HI0.out.below hb)
 clear HB BS HI0
 have HB := n1_
 have BS := n2_
 have HI0 := n3_
 clear n1_ n2_ n3_ hb ho0
 obtain ⟨Ao4, co4, eo4⟩ := Kd.R_slice HO_8.out
 subst eo4
 obtain ⟨r, hr⟩ : ∃ r, chiList a0_0 = r := ⟨_, rfl⟩
 have HRR := aM_ hr
 rw [hr] at HO_8 HL HA HSZ ⊢
 clear hr HR
 go_wp2
 go_loopg [15] r.length (fun kq v15 w' => ∃ (x : Int) (ix : Nat) (T : Nat → Int), v15 = .int .i64 x ∧ Aside0 (x = (ix : Int)) ∧ Aside0 (kq + ix = r.length) ∧ Aside0 (T = ((r.take ix).zipIdx).foldl (tabStep a0_1) (fun _ => 0)) ∧ Aside0 (IsS74 w w' g a0_0 T) ∧ Aside0 (w'.heap[gS]? = some (.cells #[.int .i64 a0_0, .string a0_1] 44 (0, 0))) ∧ Aside0 (Kd.R k52 52 w' w.heap.size (fun _ => True) (.slice Ao4 r.length co4) r) ∧ Aside0 (Below w.heap.size w w'))
 case atStart => exact ⟨0, 0, _, rfl, ⟨rfl⟩, ⟨rfl⟩, ⟨rfl⟩, HI0, BS, HO_8, HB⟩
 case round =>
  clear HI0 BS HO_8 HB
  obtain ⟨x, ix, T, rfl, HX, HK1, HT, HI0, BS, HO_8, HB⟩ := hrel
  by_cases c5 : x < (r.length : Int)
  ·have c5b0 : decide (x < (r.length : Int)) = true := decide_eq_true c5
   have hx := HX.out
   have p104 : 0 ≤ x := by omega
   have q104 := c5
   have hixn : ix < r.length := by omega
   have hrd : rd_T52 r x = r[ix] := by rw [hx]; simp [rd_T52, hixn]
   have HASC := aM_ (show chiAsc (rd_T52 r x) by rw [hrd]; exact HA.out _ (List.getElem_mem hixn))
   have HST := aM_ (show ((r.take (ix + 1)).zipIdx).foldl (tabStep a0_1) (fun _ => 0) = tabStep a0_1 (((r.take ix).zipIdx).foldl (tabStep a0_1) (fun _ => 0)) (rd_T52 r x, ix) by rw [zip_step _ _ hixn, List.foldl_append, hrd]; rfl)
   have HIX := aM_ hixn
   have HW : wrap64 (x + 1) = ((ix + 1 : Nat) : Int) := by have := HL.out; unfold wrap64; omega
   have HW := aM_ HW
   have qz0 : (x < (a0_1.size : Int)) = True := eq_true (by have := HSZ.out; omega)
   have hxz := bt_at a0_1 x
   clear c5 hrd hixn hx
   obtain ⟨ad104, e104, hx104_0, hx104_1, hx104_2⟩ := at_T52 (Kd.R_reads' HO_8.out).2.2 x p104 q104
   cases e104
   replace p104 := eq_true p104
   replace q104 := eq_true q104
   by_cases cv : bt a0_1 x = 45
   ·have HSG := aM_ (show (if bt a0_1 x = 45 then (-1 : Int) else 1) = (-1) by rw [if_pos cv])
    have cvb : ((bt a0_1 x) == 45) = true := beq_iff_eq.2 cv
    clear cv
    go_wp2_with (first | ((with_reducible refine gate_dst (N := 5) rfl ?_); refine box_event ?hg (N := 5) ?hd (cs := #[.int .i64 0, .int .i64 0, .int .i64 0]) (t := 52) ?hr ?_; (case hd => rfl); (case hg => rfl); (case hr => first | (go_simp; done) | (go_simp; rfl)); intro gb105 hg w8 hbox hb; have n1_ := aM_ (Kd.R_below (Kd.R_elderB (by (with_reducible repeat (first | apply kA_ | apply kN_ | apply kD_)); exact HO_8.out) gb105 (Nat.le_of_eq hg.symm)) hb); have n2_ := aM_ (below_step (by repeat (first | (with_reducible first | exact HB.out | apply bA_ | apply bN_ | apply bD_) | exact HB.out)) hb); have n3_ := aM_ (hbox); have n4_ := aM_ (show gb105 ≠ g by have := IsS74.lt HI0.out; rw [hg]; show _ ≠ g; exact Nat.ne_of_gt this); have n5_ := aM_ ((by rw [hg]; exact (below_size (by repeat (first | (with_reducible first | exact HB.out | apply bA_ | apply bN_ | apply bD_) | exact HB.out))) : w.heap.size ≤ gb105)); have n6_ := aM_ (HI0.out.below hb); have n7_ := aM_ (blk_below BS.out hb); have n8_ := aM_ (show gb105 ≠ gS by have := blk_lt BS.out; rw [hg]; show _ ≠ gS; exact Nat.ne_of_gt this); clear HO_8; clear HB; clear HI0 BS; have HO_8 := n1_; have HB := n2_; have BK105 := n3_; have GW105 := n4_; have GE105 := n5_; have HI0 := n6_; have BS := n7_; have GS105 := n8_; clear n1_ n2_ n3_ n4_ n5_ n6_ n7_ n8_; clear hb hbox hg; have hcz9_0 : w8.cell? ⟨gb105, 0, none⟩ = some (.int .i64 0) := (blk_cell BK105.out 0).trans rfl; have hcz9_1 : w8.cell? ⟨gb105, 1, none⟩ = some (.int .i64 0) := (blk_cell BK105.out 1).trans rfl; have hcz9_2 : w8.cell? ⟨gb105, 2, none⟩ = some (.int .i64 0) := (blk_cell BK105.out 2).trans rfl; have hfz9_0 := blk_frozen BK105.out 0; have hfz9_1 := blk_frozen BK105.out 1; have hfz9_2 := blk_frozen BK105.out 2; have hczS : (((w8.setCell ⟨gb105, 0, none⟩ (.int .i64 (rd_T52 r x).f0)).setCell ⟨gb105, 1, none⟩ (.int .i64 (rd_T52 r x).f1)).setCell ⟨gb105, 2, none⟩ (.int .i64 (rd_T52 r x).f2)).cell? ⟨gS, 1, none⟩ = some (.string a0_1) := (blk_cell (g := gS) (t := 44) (cs := #[.int .i64 a0_0, .string a0_1]) ((Below.heap_setCell _ _ _ _ (Ne.symm GS105.out)).trans ((Below.heap_setCell _ _ _ _ (Ne.symm GS105.out)).trans ((Below.heap_setCell _ _ _ _ (Ne.symm GS105.out)).trans BS.out))) 1).trans rfl) | (go_at_call 51; have hA := HASC.out; unfold chiAsc at hA; have hN := GW105.out; (with_reducible refine (chi_setT_calls w _ g a0_0 T (rd_T52 r x).f0 (rd_T52 r x).f1 (rd_T52 r x).f2 (-1) ?h1 ?h2 (by omega) (by omega) (by omega)).mono ?_); (case h1 => exact IsS74.far (IsS74.far (IsS74.far HI0.out (Ne.symm hN) _) (Ne.symm hN) _) (Ne.symm hN) _); (case h2 => exact (by repeat (first | (with_reducible first | exact HB.out | apply bA_ | apply bN_ | apply bD_ | refine below_set ?_ GE105.out) | exact HB.out))); rintro e' w10 ⟨rfl, hh1, hb1, hk1⟩))
    have HO9 := aM_ (Kd.R_keep (Kd.R_far (p := ⟨gb105, 2, none⟩) (Kd.R_far (p := ⟨gb105, 1, none⟩) (Kd.R_far (p := ⟨gb105, 0, none⟩) (Kd.R_types HO_8.out HI0.out.1 (by decide)) (fun _ hk => hk.1.2) (.int .i64 ((rd_T52 r x).f0))) (fun _ hk => hk.1.2) (.int .i64 ((rd_T52 r x).f1))) (fun _ hk => hk.1.2) (.int .i64 ((rd_T52 r x).f2))) hk1 (fun _ hk => hk.2))
    have HO9 := aM_ (Kd.R_mono (ok' := fun _ => True) HO9.out (fun _ _ => trivial))
    have HBS := aM_ (show w10.heap[gS]? = some (.cells #[.int .i64 a0_0, .string a0_1] 44 (0, 0)) from (hk1.2 gS (by have := blk_lt BS.out; simpa [World.setCell] using this) HGG.out (by simp)).trans ((Below.heap_setCell _ _ _ _ (Ne.symm GS105.out)).trans ((Below.heap_setCell _ _ _ _ (Ne.symm GS105.out)).trans ((Below.heap_setCell _ _ _ _ (Ne.symm GS105.out)).trans BS.out))))
    go_roundg (gk - 1)
    case measure => have := HK1.out; have := HIX.out; omega
    case rel => exact ⟨wrap64 (x + 1), ix + 1, _, (by first | rfl | (simp; done) | (rw [HW.out]; first | rfl | (simp; done))), ⟨HW.out⟩, ⟨by have := HK1.out; have := HIX.out; omega⟩, ⟨by rw [HST.out, HT.out, tabStep, ← HX.out, HSG.out]⟩, ⟨hh1⟩, HBS, HO9, ⟨hb1⟩⟩
   ·have HSG := aM_ (show (if bt a0_1 x = 45 then (-1 : Int) else 1) = 1 by rw [if_neg cv])
    have cvb : ((bt a0_1 x) == 45) = false := beq_eq_false_iff_ne.2 cv
    clear cv
    go_wp2_with (first | ((with_reducible refine gate_dst (N := 5) rfl ?_); refine box_event ?hg (N := 5) ?hd (cs := #[.int .i64 0, .int .i64 0, .int .i64 0]) (t := 52) ?hr ?_; (case hd => rfl); (case hg => rfl); (case hr => first | (go_simp; done) | (go_simp; rfl)); intro gb105 hg w8 hbox hb; have n1_ := aM_ (Kd.R_below (Kd.R_elderB (by (with_reducible repeat (first | apply kA_ | apply kN_ | apply kD_)); exact HO_8.out) gb105 (Nat.le_of_eq hg.symm)) hb); have n2_ := aM_ (below_step (by repeat (first | (with_reducible first | exact HB.out | apply bA_ | apply bN_ | apply bD_) | exact HB.out)) hb); have n3_ := aM_ (hbox); have n4_ := aM_ (show gb105 ≠ g by have := IsS74.lt HI0.out; rw [hg]; show _ ≠ g; exact Nat.ne_of_gt this); have n5_ := aM_ ((by rw [hg]; exact (below_size (by repeat (first | (with_reducible first | exact HB.out | apply bA_ | apply bN_ | apply bD_) | exact HB.out))) : w.heap.size ≤ gb105)); have n6_ := aM_ (HI0.out.below hb); have n7_ := aM_ (blk_below BS.out hb); have n8_ := aM_ (show gb105 ≠ gS by have := blk_lt BS.out; rw [hg]; show _ ≠ gS; exact Nat.ne_of_gt this); clear HO_8; clear HB; clear HI0 BS; have HO_8 := n1_; have HB := n2_; have BK105 := n3_; have GW105 := n4_; have GE105 := n5_; have HI0 := n6_; have BS := n7_; have GS105 := n8_; clear n1_ n2_ n3_ n4_ n5_ n6_ n7_ n8_; clear hb hbox hg; have hcz9_0 : w8.cell? ⟨gb105, 0, none⟩ = some (.int .i64 0) := (blk_cell BK105.out 0).trans rfl; have hcz9_1 : w8.cell? ⟨gb105, 1, none⟩ = some (.int .i64 0) := (blk_cell BK105.out 1).trans rfl; have hcz9_2 : w8.cell? ⟨gb105, 2, none⟩ = some (.int .i64 0) := (blk_cell BK105.out 2).trans rfl; have hfz9_0 := blk_frozen BK105.out 0; have hfz9_1 := blk_frozen BK105.out 1; have hfz9_2 := blk_frozen BK105.out 2; have hczS : (((w8.setCell ⟨gb105, 0, none⟩ (.int .i64 (rd_T52 r x).f0)).setCell ⟨gb105, 1, none⟩ (.int .i64 (rd_T52 r x).f1)).setCell ⟨gb105, 2, none⟩ (.int .i64 (rd_T52 r x).f2)).cell? ⟨gS, 1, none⟩ = some (.string a0_1) := (blk_cell (g := gS) (t := 44) (cs := #[.int .i64 a0_0, .string a0_1]) ((Below.heap_setCell _ _ _ _ (Ne.symm GS105.out)).trans ((Below.heap_setCell _ _ _ _ (Ne.symm GS105.out)).trans ((Below.heap_setCell _ _ _ _ (Ne.symm GS105.out)).trans BS.out))) 1).trans rfl) | (go_at_call 51; have hA := HASC.out; unfold chiAsc at hA; have hN := GW105.out; (with_reducible refine (chi_setT_calls w _ g a0_0 T (rd_T52 r x).f0 (rd_T52 r x).f1 (rd_T52 r x).f2 1 ?h1 ?h2 (by omega) (by omega) (by omega)).mono ?_); (case h1 => exact IsS74.far (IsS74.far (IsS74.far HI0.out (Ne.symm hN) _) (Ne.symm hN) _) (Ne.symm hN) _); (case h2 => exact (by repeat (first | (with_reducible first | exact HB.out | apply bA_ | apply bN_ | apply bD_ | refine below_set ?_ GE105.out) | exact HB.out))); rintro e' w10 ⟨rfl, hh1, hb1, hk1⟩))
    have HO9 := aM_ (Kd.R_keep (Kd.R_far (p := ⟨gb105, 2, none⟩) (Kd.R_far (p := ⟨gb105, 1, none⟩) (Kd.R_far (p := ⟨gb105, 0, none⟩) (Kd.R_types HO_8.out HI0.out.1 (by decide)) (fun _ hk => hk.1.2) (.int .i64 ((rd_T52 r x).f0))) (fun _ hk => hk.1.2) (.int .i64 ((rd_T52 r x).f1))) (fun _ hk => hk.1.2) (.int .i64 ((rd_T52 r x).f2))) hk1 (fun _ hk => hk.2))
    have HO9 := aM_ (Kd.R_mono (ok' := fun _ => True) HO9.out (fun _ _ => trivial))
    have HBS := aM_ (show w10.heap[gS]? = some (.cells #[.int .i64 a0_0, .string a0_1] 44 (0, 0)) from (hk1.2 gS (by have := blk_lt BS.out; simpa [World.setCell] using this) HGG.out (by simp)).trans ((Below.heap_setCell _ _ _ _ (Ne.symm GS105.out)).trans ((Below.heap_setCell _ _ _ _ (Ne.symm GS105.out)).trans ((Below.heap_setCell _ _ _ _ (Ne.symm GS105.out)).trans BS.out))))
    go_roundg (gk - 1)
    case measure => have := HK1.out; have := HIX.out; omega
    case rel => exact ⟨wrap64 (x + 1), ix + 1, _, (by first | rfl | (simp; done) | (rw [HW.out]; first | rfl | (simp; done))), ⟨HW.out⟩, ⟨by have := HK1.out; have := HIX.out; omega⟩, ⟨by rw [HST.out, HT.out, tabStep, ← HX.out, HSG.out]⟩, ⟨hh1⟩, HBS, HO9, ⟨hb1⟩⟩
  ·have c5b0 : decide (x < (r.length : Int)) = false := decide_eq_false c5
   have HE := aM_ (show ix = r.length by have := HK1.out; have := HX.out; omega)
   clear c5
   go_wp2
   first | go_ret | go_ret2 | go_end0
   exact ⟨g, rfl, by rw [HRR.out]; unfold tabOf; rw [show r.zipIdx = (r.take ix).zipIdx by rw [HE.out, List.take_length], ← HT.out]; exact HI0.out, HB.out⟩
end Go.Proofs.Yteaagaekdkolnaa.P

namespace Go.Proofs.Yteaagaekdkolnaa.P
open Go.RowKit Go.Proofs.YteaagaekdkolnaaW.PrintWords Go.Proofs.YteaagaekdkolnaaW.PrintLast Go.Proofs.YteaagaekdkolnaaW.PrintMore
attribute [local go_sem] max2_int min2_int max_two min_two max_three min_three max_four min_four   -- for this text's walks alone
set_option linter.unusedVariables false
set_option linter.unusedSimpArgs false
/-! ### impl_SignsOf: function 41 -/
theorem chi_list_lt (n : Int) (h : 3 ≤ n ∧ n ≤ 7) : ∀ t ∈ chiList n, t.f2 < n := by
 obtain ⟨h1, h2⟩ := h
 have hn : n = 3 ∨ n = 4 ∨ n = 5 ∨ n = 6 ∨ n = 7 := by omega
 have hd : ∀ (m : Int) (l : List S52), l.all (fun t => decide (t.f2 < m)) = true → ∀ t ∈ l, t.f2 < m := by
  intro m l hl t ht
  have := List.all_eq_true.1 hl t ht
  exact of_decide_eq_true this
 rcases hn with rfl | rfl | rfl | rfl | rfl <;> exact hd _ _ (by kernel_rfl)
def turnP (l : List S36) (t : S52) : Option Int := impl_TurnOf.f (rd_T36 l t.f0).f0 (rd_T36 l t.f0).f1 (rd_T36 l t.f1).f0 (rd_T36 l t.f1).f1 (rd_T36 l t.f2).f0 (rd_T36 l t.f2).f1
def turnStep (l : List S36) (T : Nat → Int) (t : S52) : Nat → Int := setT T t.f0 t.f1 t.f2 ((turnP l t).getD 0)
def turnTab (l : List S36) (L : List S52) : Nat → Int := L.foldl (turnStep l) fun _ => 0
def impl_SignsOf.f (k : Nat) (l0 : List S36) : Option (Int × ByteArray × Bool) := (impl_ArePoints.f k l0).bind fun ok => if ok = true then (if (3 ≤ (l0.length : Int) ∧ (l0.length : Int) ≤ 7) ∧ (∀ t ∈ chiList (l0.length : Int), (turnP l0 t).isSome = true) then some ((l0.length : Int), strOfNums ((chiList (l0.length : Int)).map (sgnB (turnTab l0 (chiList (l0.length : Int))))), true) else none) else some (0, (⟨#[]⟩ : ByteArray), false)
def impl_SignsOf.T7 : Bool × List (List Nat × List Nat) := (true, [([], []), ([], []), ([1], [1]), ([], []), ([3], [3]), ([], []), ([5], [5]), ([], []), ([], []), ([8], [8]), ([7, 9], [7, 9]), ([10], [10]), ([], []), ([], []), ([13], [13]), ([12, 14], [12, 14]), ([15], [15]), ([], []), ([], []), ([18], [18]), ([17, 19], [17, 19]), ([20], [20]), ([11, 16, 21], [11, 16, 21]), ([0, 2, 4, 6, 22, 22], [0, 2, 4, 6, 22])])
def impl_SignsOf.B7 : List Nat := [0, 0, 2, 0, 8, 0, 32, 0, 0, 256, 640, 1024, 0, 0, 8192, 20480, 32768, 0, 0, 262144, 655360, 1048576, 2164736, 4194389]
theorem impl_SignsOf.tab7 : rtab .any (opsOf Try.f41 7) = impl_SignsOf.T7 := by kernel_rfl
theorem impl_SignsOf.bits7 : waitsOk impl_SignsOf.T7.2 impl_SignsOf.B7 = true := by kernel_rfl
set_option maxHeartbeats 8000000 in
set_option maxRecDepth 100000 in
theorem impl_SignsOf.calls (k : Nat) (A0 : Option Addr) (c0 : Nat) (l0 : List S36) (r1 : Int) (r2 : ByteArray) (r3 : Bool) (w : World) (hr0 : Kd.C k36 w A0 l0.length l0) (hc0 : l0.length ≤ c0) (h : impl_SignsOf.f k l0 = some (r1, r2, r3)) :
  Calls Try.prog 41 #[.slice A0 l0.length c0] w fun e w' => e = .returned (.tuple #[.agg #[.int .i64 r1, .string r2], .bool r3]) ∧ Below w.heap.size w w' := by
 have hu65 := Try.underlying52
 have hu25 := Try.underlying36
 have hus := Try.underlying44
 have HR0 := aM_ hr0
 have HC0 := aM_ hc0
 clear hr0 hc0
 have HB := aM_ (Below.refl w.heap.size w)
 unfold impl_SignsOf.f at h
 obtain ⟨ok, hA, h⟩ := oB_ h
 have HA := aM_ hA
 clear hA
 cases ok
 case false =>
  rw [if_neg (by decide)] at h
  simp only [Option.some.injEq, Prod.mk.injEq] at h
  obtain ⟨rfl, rfl, rfl⟩ := h
  go_enter Try.func41, Try.ntmps41
  go_wp2_with (first | ((with_reducible refine gate_dst (N := 2) rfl ?_); refine box_event ?hg (N := 2) ?hd (cs := #[.int .i64 0, .string (⟨#[]⟩ : ByteArray)]) (t := 44) ?hr ?_; (case hd => rfl); (case hg => rfl); (case hr => first | (go_simp; done) | (go_simp; rfl)); intro gb101 hg w4 hbox hb; have n0_ := aM_ (below_step (by repeat (first | (with_reducible first | exact HB.out | apply bA_ | apply bN_ | apply bD_) | exact HB.out)) hb); have n1_ := aM_ (hbox); have n3_ := aM_ ((by rw [hg]; exact (below_size (by repeat (first | (with_reducible first | exact HB.out | apply bA_ | apply bN_ | apply bD_) | exact HB.out))) : w.heap.size ≤ gb101)); clear HB; have HB := n0_; have BK101 := n1_; have GE101 := n3_; clear n0_ n1_ n3_; clear hb hbox hg) | (go_at_call 15; (with_reducible refine (impl_ArePoints.calls k A0 c0 l0 false _ ?side1 HC0.out HA.out).mono ?_); (case side1 => repeat (first | exact (Kd.C_below HR0.out HB.out) | (with_reducible refine Kd.C_alloc ?_ _) | (with_reducible refine Kd.C_drewN ?_ _) | (with_reducible refine Kd.C_drew ?_))); rintro e w6 ⟨rfl, hb⟩; have n0_ := aM_ (below_step (by repeat (first | (with_reducible first | exact HB.out | apply bA_ | apply bN_ | apply bD_) | exact HB.out)) hb); have n1_ := aM_ (blk_below (g := gb101) (o := .cells #[.int .i64 0, .string (⟨#[]⟩ : ByteArray)] 44 (0, 0)) BK101.out hb); clear HB BK101; have HB := n0_; have BK101 := n1_; clear n0_ n1_ hb; have hcz14_0 : w6.cell? ⟨gb101, 0, none⟩ = some (.int .i64 0) := (blk_cell BK101.out 0).trans rfl; have hcz14_1 : w6.cell? ⟨gb101, 1, none⟩ = some (.string (⟨#[]⟩ : ByteArray)) := (blk_cell BK101.out 1).trans rfl; have hfz14_0 := blk_frozen BK101.out 0; have hfz14_1 := blk_frozen BK101.out 1))
  refine bodyPost_ret (results_ct rfl _ _ gb101 44 #[.int .i64 0, .string (⟨#[]⟩ : ByteArray)] (0, 0) _ rfl (by (with_reducible repeat (first | refine blk_drewN ?_ _ | refine blk_drew ?_ | refine blk_alloc ?_ _)); refine blk_put (cs := #[.int .i64 0, .string (⟨#[]⟩ : ByteArray)]) ?_ 1 _ rfl; (with_reducible repeat (first | refine blk_drewN ?_ _ | refine blk_drew ?_ | refine blk_alloc ?_ _)); refine blk_put (cs := #[.int .i64 0, .string (⟨#[]⟩ : ByteArray)]) ?_ 0 _ rfl; (with_reducible repeat (first | refine blk_drewN ?_ _ | refine blk_drew ?_ | refine blk_alloc ?_ _)); exact BK101.out) Try.underlying44 rfl (by kernel_rfl)) rfl ?_
  exact ⟨by first | rfl | (simp [errW_none, errW_some] <;> rfl) | (simp [*, errW_none, errW_some] <;> rfl), by repeat (first | (with_reducible first | exact HB.out | apply bA_ | apply bN_ | apply bD_ | refine below_set ?_ GE101.out) | exact HB.out)⟩
 rw [if_pos rfl] at h
 by_cases hc : (3 ≤ (l0.length : Int) ∧ (l0.length : Int) ≤ 7) ∧ (∀ t ∈ chiList (l0.length : Int), (turnP l0 t).isSome = true)
 case neg => rw [if_neg hc] at h; cases h
 rw [if_pos hc] at h
 simp only [Option.some.injEq, Prod.mk.injEq] at h
 obtain ⟨rfl, rfl, rfl⟩ := h
 obtain ⟨hR, hL, hS⟩ := chi_list _ hc.1
 have HR := aM_ hR
 have HL := aM_ hL
 have HAS := aM_ hS
 have HLL := aM_ (chi_list_lt _ hc.1)
 have HSO := aM_ hc.2
 clear hR hL hS hc
 go_enter Try.func41, Try.ntmps41
 go_wp2_with (first | ((with_reducible refine gate_dst (N := 2) rfl ?_); refine box_event ?hg (N := 2) ?hd (cs := #[.int .i64 0, .string (⟨#[]⟩ : ByteArray)]) (t := 44) ?hr ?_; (case hd => rfl); (case hg => rfl); (case hr => first | (go_simp; done) | (go_simp; rfl)); intro gb101 hg w4 hbox hb; have n0_ := aM_ (below_step (by repeat (first | (with_reducible first | exact HB.out | apply bA_ | apply bN_ | apply bD_) | exact HB.out)) hb); have n1_ := aM_ (hbox); have n3_ := aM_ ((by rw [hg]; exact (below_size (by repeat (first | (with_reducible first | exact HB.out | apply bA_ | apply bN_ | apply bD_) | exact HB.out))) : w.heap.size ≤ gb101)); clear HB; have HB := n0_; have BK101 := n1_; have GE101 := n3_; clear n0_ n1_ n3_; clear hb hbox hg) | (go_at_call 15; (with_reducible refine (impl_ArePoints.calls k A0 c0 l0 true _ ?side1 HC0.out HA.out).mono ?_); (case side1 => repeat (first | exact (Kd.C_below HR0.out HB.out) | (with_reducible refine Kd.C_alloc ?_ _) | (with_reducible refine Kd.C_drewN ?_ _) | (with_reducible refine Kd.C_drew ?_))); rintro e w6 ⟨rfl, hb⟩; have n0_ := aM_ (below_step (by repeat (first | (with_reducible first | exact HB.out | apply bA_ | apply bN_ | apply bD_) | exact HB.out)) hb); have n1_ := aM_ (blk_below (g := gb101) (o := .cells #[.int .i64 0, .string (⟨#[]⟩ : ByteArray)] 44 (0, 0)) BK101.out hb); clear HB BK101; have HB := n0_; have BK101 := n1_; clear n0_ n1_ hb))
 have hch : (w6.alloc (.cells (Try.zeroCells74.setIfInBounds 0 (.int .i64 (l0.length : Int))) 74)).heap[w6.heap.size]? = some (.cells (chiC (l0.length : Int) (fun _ => 0)) 74 (0, 0)) := by
  rw [← chi_fresh]
  exact blk_new w6 _
 obtain ⟨g, hg⟩ : ∃ g, w6.heap.size = g := ⟨_, rfl⟩
 have HGG := aM_ (show gb101 ≠ g by have := blk_lt BK101.out; rw [← hg]; exact Nat.ne_of_lt this)
 have hgw : w.heap.size ≤ g := by rw [← hg]; exact below_size HB.out
 rw [hg] at hch ⊢
 have n1_ := aM_ (bA_ HB.out (.cells (Try.zeroCells74.setIfInBounds 0 (.int .i64 (l0.length : Int))) 74))
 have n2_ := aM_ (blk_alloc BK101.out (.cells (Try.zeroCells74.setIfInBounds 0 (.int .i64 (l0.length : Int))) 74))
 have HI0 := aM_ (show IsS74 w _ g (l0.length : Int) (fun _ => 0) from ⟨hch, hgw⟩)
 clear HB BK101 hch hgw hg
 have HB := n1_
 have BK101 := n2_
 clear n1_ n2_
 generalize w6.alloc (.cells (Try.zeroCells74.setIfInBounds 0 (.int .i64 (l0.length : Int))) 74) = wC at HB BK101 HI0 ⊢
 (with_reducible refine (impl_triplesOf.calls 300 (l0.length : Int) (chiList (l0.length : Int)) _ HR.out).mono ?_)
 rintro e w3 ⟨v102, rfl, ho0, hb⟩
 have HO_8 := aM_ (Kd.R_lower ho0 (below_size HB.out))
 have n1_ := aM_ (below_step HB.out hb)
 have n2_ := aM_ (blk_below BK101.out hb)
 have n3_ := aM_ (HI0.out.below hb)
 clear HB BK101 HI0
 have HB := n1_
 have BK101 := n2_
 have HI0 := n3_
 clear n1_ n2_ n3_ hb ho0
 obtain ⟨Ao4, co4, eo4⟩ := Kd.R_slice HO_8.out
 subst eo4
 obtain ⟨r, hr⟩ : ∃ r, chiList (l0.length : Int) = r := ⟨_, rfl⟩
 have HRR := aM_ hr
 rw [hr] at HO_8 HL HAS HLL HSO ⊢
 clear hr
 go_wp2
 go_loopg [21] r.length (fun kq v21 w' => ∃ (x : Int) (ix : Nat) (T : Nat → Int), v21 = .int .i64 x ∧ Aside0 (x = (ix : Int)) ∧ Aside0 (kq + ix = r.length) ∧ Aside0 (T = (r.take ix).foldl (turnStep l0) (fun _ => 0)) ∧ Aside0 (IsS74 w w' g (l0.length : Int) T) ∧ Aside0 (w'.heap[gb101]? = some (.cells #[.int .i64 0, .string (⟨#[]⟩ : ByteArray)] 44 (0, 0))) ∧ Aside0 (Kd.R k52 52 w' w.heap.size (fun _ => True) (.slice Ao4 r.length co4) r) ∧ Aside0 (Below w.heap.size w w'))
 case atStart => exact ⟨0, 0, _, rfl, ⟨rfl⟩, ⟨rfl⟩, ⟨rfl⟩, HI0, BK101, HO_8, HB⟩
 case round =>
  clear HI0 BK101 HO_8 HB
  obtain ⟨x, ix, T, rfl, HX, HK1, HT, HI0, BK101, HO_8, HB⟩ := hrel
  by_cases c5 : x < (r.length : Int)
  ·have c5b0 : decide (x < (r.length : Int)) = true := decide_eq_true c5
   have hx := HX.out
   have p104 : 0 ≤ x := by omega
   have q104 := c5
   have hixn : ix < r.length := by omega
   have hrd : rd_T52 r x = r[ix] := by rw [hx]; simp [rd_T52, hixn]
   have HASC := aM_ (show chiAsc (rd_T52 r x) by rw [hrd]; exact HAS.out _ (List.getElem_mem hixn))
   have HLT := aM_ (show (rd_T52 r x).f2 < (l0.length : Int) by rw [hrd]; exact HLL.out _ (List.getElem_mem hixn))
   obtain ⟨v, hv⟩ := Option.isSome_iff_exists.1 (show (turnP l0 (rd_T52 r x)).isSome = true by rw [hrd]; exact HSO.out _ (List.getElem_mem hixn))
   have HST := aM_ (show (r.take (ix + 1)).foldl (turnStep l0) (fun _ => 0) = setT ((r.take ix).foldl (turnStep l0) (fun _ => 0)) ((rd_T52 r x).f0) ((rd_T52 r x).f1) ((rd_T52 r x).f2) v by rw [List.take_add_one, List.getElem?_eq_getElem hixn, List.foldl_append, ← hrd]; show turnStep l0 _ _ = _; rw [turnStep, hv]; rfl)
   have HV := aM_ (show impl_TurnOf.f (rd_T36 l0 ((rd_T52 r x).f0)).f0 (rd_T36 l0 ((rd_T52 r x).f0)).f1 (rd_T36 l0 ((rd_T52 r x).f1)).f0 (rd_T36 l0 ((rd_T52 r x).f1)).f1 (rd_T36 l0 ((rd_T52 r x).f2)).f0 (rd_T36 l0 ((rd_T52 r x).f2)).f1 = some v from hv)
   have HIX := aM_ hixn
   have HW : wrap64 (x + 1) = ((ix + 1 : Nat) : Int) := by have := HL.out; unfold wrap64; omega
   have HW := aM_ HW
   clear c5 hrd hixn hx hv
   obtain ⟨ad104, e104, hx104_0, hx104_1, hx104_2⟩ := at_T52 (Kd.R_reads' HO_8.out).2.2 x p104 q104
   cases e104
   replace p104 := eq_true p104
   replace q104 := eq_true q104
   try go_wp2_with (first | ((with_reducible refine gate_dst (N := 6) rfl ?_); refine box_event ?hg (N := 6) ?hd (cs := #[.int .i64 0, .int .i64 0, .int .i64 0]) (t := 52) ?hr ?_; (case hd => rfl); (case hg => rfl); (case hr => first | (go_simp; done) | (go_simp; rfl)); intro gb106 hg w22 hbox hb; have n0_ := aM_ (Kd.R_below (Kd.R_elderB (by (with_reducible repeat (first | apply kA_ | apply kN_ | apply kD_)); exact HO_8.out) gb106 (Nat.le_of_eq hg.symm)) hb); have n1_ := aM_ (below_step (by repeat (first | (with_reducible first | exact HB.out | apply bA_ | apply bN_ | apply bD_) | exact HB.out)) hb); have n2_ := aM_ (hbox); have n3_ := aM_ (show gb106 ≠ g by have := IsS74.lt HI0.out; rw [hg]; show _ ≠ g; exact Nat.ne_of_gt this); have n4_ := aM_ ((by rw [hg]; exact (below_size (by repeat (first | (with_reducible first | exact HB.out | apply bA_ | apply bN_ | apply bD_) | exact HB.out))) : w.heap.size ≤ gb106)); have n5_ := aM_ (HI0.out.below hb); have n6_ := aM_ (blk_below (g := gb101) (o := .cells #[.int .i64 0, .string (⟨#[]⟩ : ByteArray)] 44 (0, 0)) BK101.out hb); have n7_ := aM_ (show gb106 ≠ gb101 by have := blk_lt BK101.out; rw [hg]; show _ ≠ gb101; exact Nat.ne_of_gt this); clear HO_8 HB HI0 BK101; have HO_8 := n0_; have HB := n1_; have BK106 := n2_; have GW106 := n3_; have GE106 := n4_; have HI0 := n5_; have BK101 := n6_; have GS106 := n7_; clear n0_ n1_ n2_ n3_ n4_ n5_ n6_ n7_; clear hb hbox hg; have hcz23_0 : w22.cell? ⟨gb106, 0, none⟩ = some (.int .i64 0) := (blk_cell BK106.out 0).trans rfl; have hcz23_1 : w22.cell? ⟨gb106, 1, none⟩ = some (.int .i64 0) := (blk_cell BK106.out 1).trans rfl; have hcz23_2 : w22.cell? ⟨gb106, 2, none⟩ = some (.int .i64 0) := (blk_cell BK106.out 2).trans rfl; have hfz23_0 := blk_frozen BK106.out 0; have hfz23_1 := blk_frozen BK106.out 1; have hfz23_2 := blk_frozen BK106.out 2))
   have n0_ : Aside0 (Kd.R k52 52 (((w22.setCell ⟨gb106, 0, none⟩ (.int .i64 ((rd_T52 r x).f0))).setCell ⟨gb106, 1, none⟩ (.int .i64 ((rd_T52 r x).f1))).setCell ⟨gb106, 2, none⟩ (.int .i64 ((rd_T52 r x).f2))) w.heap.size (fun k_ => (True ∧ k_ ≠ gb106) ∧ k_ ≠ g) (.slice (some ad104) r.length co4) r) := ⟨Kd.R_mono (Kd.R_far (p := ⟨gb106, 2, none⟩) (Kd.R_far (p := ⟨gb106, 1, none⟩) (Kd.R_far (p := ⟨gb106, 0, none⟩) (Kd.R_types HO_8.out HI0.out.1 (by decide)) (fun _ hk => hk.1.2) (.int .i64 ((rd_T52 r x).f0))) (fun _ hk => hk.1.2) (.int .i64 ((rd_T52 r x).f1))) (fun _ hk => hk.1.2) (.int .i64 ((rd_T52 r x).f2))) (fun _ hk => hk)⟩
   have n1_ : Aside0 ((((w22.setCell ⟨gb106, 0, none⟩ (.int .i64 ((rd_T52 r x).f0))).setCell ⟨gb106, 1, none⟩ (.int .i64 ((rd_T52 r x).f1))).setCell ⟨gb106, 2, none⟩ (.int .i64 ((rd_T52 r x).f2))).heap[gb106]? = some (.cells #[.int .i64 ((rd_T52 r x).f0), .int .i64 ((rd_T52 r x).f1), .int .i64 ((rd_T52 r x).f2)] 52 (0, 0))) := ⟨by refine blk_put (cs := #[.int .i64 ((rd_T52 r x).f0), .int .i64 ((rd_T52 r x).f1), .int .i64 0]) ?_ 2 _ rfl; refine blk_put (cs := #[.int .i64 ((rd_T52 r x).f0), .int .i64 0, .int .i64 0]) ?_ 1 _ rfl; refine blk_put (cs := #[.int .i64 0, .int .i64 0, .int .i64 0]) ?_ 0 _ rfl; exact BK106.out⟩
   have n2_ : Aside0 (Below w.heap.size w (((w22.setCell ⟨gb106, 0, none⟩ (.int .i64 ((rd_T52 r x).f0))).setCell ⟨gb106, 1, none⟩ (.int .i64 ((rd_T52 r x).f1))).setCell ⟨gb106, 2, none⟩ (.int .i64 ((rd_T52 r x).f2)))) := ⟨by repeat (first | (with_reducible first | exact HB.out | refine below_set ?_ GE106.out) | exact HB.out)⟩
   have n3_ : Aside0 (IsS74 w (((w22.setCell ⟨gb106, 0, none⟩ (.int .i64 ((rd_T52 r x).f0))).setCell ⟨gb106, 1, none⟩ (.int .i64 ((rd_T52 r x).f1))).setCell ⟨gb106, 2, none⟩ (.int .i64 ((rd_T52 r x).f2))) g (l0.length : Int) T) := ⟨IsS74.far (IsS74.far (IsS74.far HI0.out (Ne.symm GW106.out) _) (Ne.symm GW106.out) _) (Ne.symm GW106.out) _⟩
   have n4_ : Aside0 ((((w22.setCell ⟨gb106, 0, none⟩ (.int .i64 ((rd_T52 r x).f0))).setCell ⟨gb106, 1, none⟩ (.int .i64 ((rd_T52 r x).f1))).setCell ⟨gb106, 2, none⟩ (.int .i64 ((rd_T52 r x).f2))).heap[gb101]? = some (.cells #[.int .i64 0, .string (⟨#[]⟩ : ByteArray)] 44 (0, 0))) := ⟨(Below.heap_setCell _ _ _ _ (Ne.symm GS106.out)).trans ((Below.heap_setCell _ _ _ _ (Ne.symm GS106.out)).trans ((Below.heap_setCell _ _ _ _ (Ne.symm GS106.out)).trans BK101.out))⟩
   clear HO_8 BK106 HB HI0 BK101
   generalize (((w22.setCell ⟨gb106, 0, none⟩ (.int .i64 ((rd_T52 r x).f0))).setCell ⟨gb106, 1, none⟩ (.int .i64 ((rd_T52 r x).f1))).setCell ⟨gb106, 2, none⟩ (.int .i64 ((rd_T52 r x).f2))) = w24 at n0_ n1_ n2_ n3_ n4_ ⊢
   have HO_8 := aM_ (kD_ n0_.out)
   have BK106 := aM_ (blk_drew n1_.out)
   have HB := aM_ (bD_ n2_.out)
   have HI0 := aM_ n3_.out.drew
   have BK101 := aM_ (blk_drew n4_.out)
   clear n0_ n1_ n2_ n3_ n4_
   have p107 : 0 ≤ ((rd_T52 r x).f0) := by have := HASC.out; unfold chiAsc at this; omega
   have q107 : ((rd_T52 r x).f0) < (l0.length : Int) := by have := HASC.out; have := HLT.out; unfold chiAsc at *; omega
   obtain ⟨ad107, e107, hx107_0, hx107_1⟩ := at_T36 HR0.out ((rd_T52 r x).f0) p107 q107
   have hw107_1 := hx107_1
   have hw107_0 := hx107_0
   cases e107
   replace hx107_0 := (HB.out.cell (World.block_lt_of_cell? w _ hx107_0)).trans hx107_0
   replace hx107_1 := (HB.out.cell (World.block_lt_of_cell? w _ hx107_1)).trans hx107_1
   replace p107 := eq_true p107
   replace q107 := eq_true q107
   have p108 : 0 ≤ ((rd_T52 r x).f1) := by have := HASC.out; unfold chiAsc at this; omega
   have q108 : ((rd_T52 r x).f1) < (l0.length : Int) := by have := HASC.out; have := HLT.out; unfold chiAsc at *; omega
   obtain ⟨ad108, e108, hx108_0, hx108_1⟩ := at_T36 HR0.out ((rd_T52 r x).f1) p108 q108
   have hw108_1 := hx108_1
   have hw108_0 := hx108_0
   obtain rfl : ad107 = ad108 := (by injection e108)
   replace hx108_0 := (HB.out.cell (World.block_lt_of_cell? w _ hx108_0)).trans hx108_0
   replace hx108_1 := (HB.out.cell (World.block_lt_of_cell? w _ hx108_1)).trans hx108_1
   replace p108 := eq_true p108
   replace q108 := eq_true q108
   have p109 : 0 ≤ ((rd_T52 r x).f2) := by have := HASC.out; unfold chiAsc at this; omega
   have q109 : ((rd_T52 r x).f2) < (l0.length : Int) := by have := HASC.out; have := HLT.out; unfold chiAsc at *; omega
   obtain ⟨ad109, e109, hx109_0, hx109_1⟩ := at_T36 HR0.out ((rd_T52 r x).f2) p109 q109
   have hw109_1 := hx109_1
   have hw109_0 := hx109_0
   obtain rfl : ad107 = ad109 := (by injection e109)
   replace hx109_0 := (HB.out.cell (World.block_lt_of_cell? w _ hx109_0)).trans hx109_0
   replace hx109_1 := (HB.out.cell (World.block_lt_of_cell? w _ hx109_1)).trans hx109_1
   replace p109 := eq_true p109
   replace q109 := eq_true q109
   refine start_ (n := 24) (S := fun w' => w'.cell? ⟨gb106, 0, none⟩ = some (.int .i64 ((rd_T52 r x).f0)) ∧ w'.cell? ⟨gb106, 1, none⟩ = some (.int .i64 ((rd_T52 r x).f1)) ∧ w'.cell? ⟨gb106, 2, none⟩ = some (.int .i64 ((rd_T52 r x).f2)) ∧ w'.cell? (ad107.add (((rd_T52 r x).f0).toNat * 2)) = some (.int .i64 (rd_T36 l0 ((rd_T52 r x).f0)).f0) ∧ w'.cell? ⟨(ad107.add (((rd_T52 r x).f0).toNat * 2)).block, (ad107.add (((rd_T52 r x).f0).toNat * 2)).off + 1, none⟩ = some (.int .i64 (rd_T36 l0 ((rd_T52 r x).f0)).f1) ∧ w'.cell? (ad107.add (((rd_T52 r x).f1).toNat * 2)) = some (.int .i64 (rd_T36 l0 ((rd_T52 r x).f1)).f0) ∧ w'.cell? ⟨(ad107.add (((rd_T52 r x).f1).toNat * 2)).block, (ad107.add (((rd_T52 r x).f1).toNat * 2)).off + 1, none⟩ = some (.int .i64 (rd_T36 l0 ((rd_T52 r x).f1)).f1) ∧ w'.cell? (ad107.add (((rd_T52 r x).f2).toNat * 2)) = some (.int .i64 (rd_T36 l0 ((rd_T52 r x).f2)).f0) ∧ w'.cell? ⟨(ad107.add (((rd_T52 r x).f2).toNat * 2)).block, (ad107.add (((rd_T52 r x).f2).toNat * 2)).off + 1, none⟩ = some (.int .i64 (rd_T36 l0 ((rd_T52 r x).f2)).f1)) (ds := []) (bm 24 0) (by kernel_rfl) rfl rfl ⟨(blk_cell BK106.out 0).trans rfl, (blk_cell BK106.out 1).trans rfl, (blk_cell BK106.out 2).trans rfl, ((HB.out.cell (World.block_lt_of_cell? w _ hw107_0)).trans hw107_0), ((HB.out.cell (World.block_lt_of_cell? w _ hw107_1)).trans hw107_1), ((HB.out.cell (World.block_lt_of_cell? w _ hw108_0)).trans hw108_0), ((HB.out.cell (World.block_lt_of_cell? w _ hw108_1)).trans hw108_1), ((HB.out.cell (World.block_lt_of_cell? w _ hw109_0)).trans hw109_0), ((HB.out.cell (World.block_lt_of_cell? w _ hw109_1)).trans hw109_1)⟩ (fun hHeld => ?_); refine with_tabW impl_SignsOf.tab7 impl_SignsOf.bits7 (fun HT_ HW_ => ?_)
   generalize w24.drew = w30 at HO_8 BK106 HB HI0 BK101 hx107_0 hx107_1 hx108_0 hx108_1 hx109_0 hx109_1 hHeld ⊢
   refine plan_ ((0, 0, 25, 1) :: (0, 1, 26, 3) :: (2, 2, 27, 7) :: (0, 3, 28, 15) :: (2, 4, 29, 31) :: (0, 5, 30, 63) :: (2, 6, 31, 127) :: (0, 7, 32, 255) :: (0, 8, 33, 511) :: (2, 9, 34, 1023) :: (0, 10, 35, 2047) :: (2, 11, 36, 4095) :: (0, 12, 37, 8191) :: (0, 13, 38, 16383) :: (2, 14, 39, 32767) :: (0, 15, 40, 65535) :: (2, 16, 41, 131071) :: (0, 17, 42, 262143) :: (0, 18, 43, 524287) :: (2, 19, 44, 1048575) :: (0, 20, 45, 2097151) :: (2, 21, 46, 4194303) :: []) ?_
   iterate 22 (first | (refine planV_ ?_ ?_ rfl rfl (any_of HT_.out (by kernel_rfl)) (fun _ _ _ h => h) (Or.inl ⟨by rfl, ?_⟩) ?_ ?_; rotate_left 2; (· intro w'; go_simp; with_reducible rfl); (· simp only [Act.put, List.setIfInBounds_toArray, List.set_cons_zero, List.set_cons_succ, i64_w, i32_w]; rfl)) | (refine planT_ ?_ ?_ rfl rfl (take_ofW HT_.out HW_.out (by kernel_rfl)) (fun _ _ _ h => h) (Or.inl ⟨by rfl, ?_⟩) hHeld ?_ ?_; rotate_left 2; (· rintro w' ⟨s0, s1, s2, s3, s4, s5, s6, s7, s8⟩; go_simp; with_reducible rfl); (· simp only [Act.put, List.setIfInBounds_toArray, List.set_cons_zero, List.set_cons_succ, i64_w, i32_w]; rfl)))
   refine planEnd_ ?_
   refine one_ (i := 22) (N := some 47) (bm 24 8388607) rfl rfl (one_of HT_.out (by kernel_rfl)) (by decide) (fun K hK => ?_)
   refine goes_ Try.func28 (by kernel_rfl) rfl #[.agg #[.int .i64 (rd_T36 l0 ((rd_T52 r x).f0)).f0, .int .i64 (rd_T36 l0 ((rd_T52 r x).f0)).f1], .agg #[.int .i64 (rd_T36 l0 ((rd_T52 r x).f1)).f0, .int .i64 (rd_T36 l0 ((rd_T52 r x).f1)).f1], .agg #[.int .i64 (rd_T36 l0 ((rd_T52 r x).f2)).f0, .int .i64 (rd_T36 l0 ((rd_T52 r x).f2)).f1]] (by rfl) rfl rfl (by (try simp only [List.map_toArray, List.map_cons, List.map_nil]); first | done | rfl) ?_
   with_reducible refine (impl_TurnOf.calls ((rd_T36 l0 ((rd_T52 r x).f0)).f0) ((rd_T36 l0 ((rd_T52 r x).f0)).f1) ((rd_T36 l0 ((rd_T52 r x).f1)).f0) ((rd_T36 l0 ((rd_T52 r x).f1)).f1) ((rd_T36 l0 ((rd_T52 r x).f2)).f0) ((rd_T36 l0 ((rd_T52 r x).f2)).f1) v _ HV.out).mono ?_
   rintro e w31 ⟨rfl, hb⟩
   refine ⟨_, rfl, ?_⟩
   have n0_ := aM_ (Kd.R_below HO_8.out hb)
   have n1_ := aM_ (blk_below (g := gb106) (o := .cells #[.int .i64 ((rd_T52 r x).f0), .int .i64 ((rd_T52 r x).f1), .int .i64 ((rd_T52 r x).f2)] 52 (0, 0)) BK106.out hb)
   have n2_ := aM_ (below_step HB.out hb)
   have n3_ := aM_ (HI0.out.below hb)
   have n4_ := aM_ (blk_below (g := gb101) (o := .cells #[.int .i64 0, .string (⟨#[]⟩ : ByteArray)] 44 (0, 0)) BK101.out hb)
   clear HO_8 BK106 HB HI0 BK101
   have HO_8 := n0_
   have BK106 := n1_
   have HB := n2_
   have HI0 := n3_
   have BK101 := n4_
   clear n0_ n1_ n2_ n3_ n4_ hb
   refine hK.out _ _ ⟨(blk_cell BK106.out 0).trans rfl, (blk_cell BK106.out 1).trans rfl, (blk_cell BK106.out 2).trans rfl, ((HB.out.cell (World.block_lt_of_cell? w _ hw107_0)).trans hw107_0), ((HB.out.cell (World.block_lt_of_cell? w _ hw107_1)).trans hw107_1), ((HB.out.cell (World.block_lt_of_cell? w _ hw108_0)).trans hw108_0), ((HB.out.cell (World.block_lt_of_cell? w _ hw108_1)).trans hw108_1), ((HB.out.cell (World.block_lt_of_cell? w _ hw109_0)).trans hw109_0), ((HB.out.cell (World.block_lt_of_cell? w _ hw109_1)).trans hw109_1)⟩ (fun hHeld => ?_)
   clear hK K
   refine norm_ (a' := ?_) ?_ ?_
   rotate_left
   ·show Act.put _ (some 47) _ = _
    simp only [Act.put, List.setIfInBounds_toArray, List.set_cons_zero, List.set_cons_succ, i64_w, i32_w]
    rfl
   refine one_ (i := 23) (N := some 48) (bm 24 16777215) rfl rfl (one_of HT_.out (by kernel_rfl)) (by decide) (fun K hK => ?_)
   refine goes_ Try.func51 (by kernel_rfl) rfl #[.pointer (some ⟨g, 0, none⟩), .int .i64 ((rd_T52 r x).f0), .int .i64 ((rd_T52 r x).f1), .int .i64 ((rd_T52 r x).f2), .int .i64 v] (by rfl) rfl rfl (by (try simp only [List.map_toArray, List.map_cons, List.map_nil]); first | done | rfl) ?_
   have hA := HASC.out
   unfold chiAsc at hA
   (with_reducible refine (chi_setT_calls w _ g (l0.length : Int) T ((rd_T52 r x).f0) ((rd_T52 r x).f1) ((rd_T52 r x).f2) v HI0.out HB.out (by omega) (by omega) (by omega)).mono ?_)
   rintro e' w10 ⟨rfl, hh1, hb1, hk1⟩
   refine ⟨_, rfl, ?_⟩
   have HO9 := aM_ (Kd.R_mono (ok' := fun _ => True) (Kd.R_keep HO_8.out hk1 (fun _ hk => hk.2)) (fun _ _ => trivial))
   have HBS := aM_ (show w10.heap[gb101]? = some (.cells #[.int .i64 0, .string (⟨#[]⟩ : ByteArray)] 44 (0, 0)) from (hk1.2 gb101 (blk_lt BK101.out) HGG.out (by simp)).trans BK101.out)
   have HB6 := aM_ (show w10.heap[gb106]? = some (.cells #[.int .i64 ((rd_T52 r x).f0), .int .i64 ((rd_T52 r x).f1), .int .i64 ((rd_T52 r x).f2)] 52 (0, 0)) from (hk1.2 gb106 (blk_lt BK106.out) GW106.out (by simp)).trans BK106.out)
   clear HO_8 BK106 HB HI0 BK101
   have BK106 := HB6
   have HB := aM_ hb1
   refine hK.out _ _ ⟨(blk_cell BK106.out 0).trans rfl, (blk_cell BK106.out 1).trans rfl, (blk_cell BK106.out 2).trans rfl, ((HB.out.cell (World.block_lt_of_cell? w _ hw107_0)).trans hw107_0), ((HB.out.cell (World.block_lt_of_cell? w _ hw107_1)).trans hw107_1), ((HB.out.cell (World.block_lt_of_cell? w _ hw108_0)).trans hw108_0), ((HB.out.cell (World.block_lt_of_cell? w _ hw108_1)).trans hw108_1), ((HB.out.cell (World.block_lt_of_cell? w _ hw109_0)).trans hw109_0), ((HB.out.cell (World.block_lt_of_cell? w _ hw109_1)).trans hw109_1)⟩ (fun hHeld => ?_)
   clear hK K
   refine done_ (done_of HT_.out (by kernel_rfl)) ?_
   try go_wp2
   go_roundg (gk - 1)
   case measure => have := HK1.out; have := HIX.out; omega
   case rel => exact ⟨wrap64 (x + 1), ix + 1, _, (by first | rfl | (simp; done) | (rw [HW.out]; first | rfl | (simp; done))), ⟨HW.out⟩, ⟨by have := HK1.out; have := HIX.out; omega⟩, ⟨by rw [HST.out, HT.out]⟩, ⟨hh1⟩, HBS, HO9, ⟨hb1⟩⟩
  ·have c5b0 : decide (x < (r.length : Int)) = false := decide_eq_false c5
   have HE := aM_ (show ix = r.length by have := HK1.out; have := HX.out; omega)
   clear c5
   go_wp2_with (first | (go_at_call 52; (with_reducible refine (chi_signsT_calls 300 w _ g (l0.length : Int) T r (by rw [← HRR.out]; exact HR.out) HL.out HAS.out HI0.out).mono ?_); rintro e w7 ⟨rfl, hb⟩; have n0_ := aM_ (below_step HB.out hb); have n1_ := aM_ (blk_below (g := gb101) (o := .cells #[.int .i64 0, .string (⟨#[]⟩ : ByteArray)] 44 (0, 0)) BK101.out hb); clear HB BK101; have HB := n0_; have BK101 := n1_; clear n0_ n1_ hb; have hcz14_0 : w7.cell? ⟨gb101, 0, none⟩ = some (.int .i64 0) := (blk_cell BK101.out 0).trans rfl; have hcz14_1 : w7.cell? ⟨gb101, 1, none⟩ = some (.string (⟨#[]⟩ : ByteArray)) := (blk_cell BK101.out 1).trans rfl; have hfz14_0 := blk_frozen BK101.out 0; have hfz14_1 := blk_frozen BK101.out 1))
   have hTT : T = turnTab l0 r := by rw [HT.out, HE.out, List.take_length]; rfl
   rw [HRR.out, ← hTT]
   refine bodyPost_ret (results_ct rfl _ _ gb101 44 #[.int .i64 (l0.length : Int), .string (strOfNums (r.map (sgnB T)))] (0, 0) _ rfl (by (with_reducible repeat (first | refine blk_drewN ?_ _ | refine blk_drew ?_ | refine blk_alloc ?_ _)); refine blk_put (cs := #[.int .i64 (l0.length : Int), .string (⟨#[]⟩ : ByteArray)]) ?_ 1 _ rfl; (with_reducible repeat (first | refine blk_drewN ?_ _ | refine blk_drew ?_ | refine blk_alloc ?_ _)); refine blk_put (cs := #[.int .i64 0, .string (⟨#[]⟩ : ByteArray)]) ?_ 0 _ rfl; (with_reducible repeat (first | refine blk_drewN ?_ _ | refine blk_drew ?_ | refine blk_alloc ?_ _)); exact BK101.out) Try.underlying44 rfl (by kernel_rfl)) rfl ?_
   exact ⟨by first | rfl | (simp [errW_none, errW_some] <;> rfl) | (simp [*, errW_none, errW_some] <;> rfl), by repeat (first | (with_reducible first | exact HB.out | apply bA_ | apply bN_ | apply bD_ | refine below_set ?_ GE101.out) | exact HB.out)⟩
end Go.Proofs.Yteaagaekdkolnaa.P

namespace Go.Proofs.Yteaagaekdkolnaa.P
open Go.RowKit Go.Proofs.YteaagaekdkolnaaW.PrintWords Go.Proofs.YteaagaekdkolnaaW.PrintLast Go.Proofs.YteaagaekdkolnaaW.PrintMore
attribute [local go_sem] max2_int min2_int max_two min_two max_three min_three max_four min_four   -- for this text's walks alone
set_option linter.unusedVariables false
set_option linter.unusedSimpArgs false
/-! ### impl_elementsOf: function 53 -/
def impl_elementsOf.l0 : Nat → Int → List Int → Int → Option (List Int)
 | 0, _, _, _ => none
 | k + 1, x0, x3, x4 => if x4 < 63 then (if 0 ≤ x4 then (if (Go.bits .and .i64 (shr .i64 x0 x4) 1) = 1 then (if x3.length < 17592186044416 then (impl_elementsOf.l0 k x0 (x3 ++ [x4]) (wrap64 (x4 + 1))) else (none)) else (impl_elementsOf.l0 k x0 x3 (wrap64 (x4 + 1)))) else (none)) else (some x3)
def impl_elementsOf.f (k : Nat) (a0 : Int) : Option (List Int) := impl_elementsOf.l0 k a0 ([] : List Int) 0
theorem impl_elementsOf.mono_l : ∀ k, (∀ y0 y1 y2, LeO (impl_elementsOf.l0 k y0 y1 y2) (impl_elementsOf.l0 (k + 1) y0 y1 y2))
 | 0 => fun _ _ _ r h => by simp [impl_elementsOf.l0] at h
 | k + 1 => by
  have ih0 := impl_elementsOf.mono_l k
  (intros; unfold impl_elementsOf.l0; repeat' (with_reducible first | exact ih0 _ _ _ | exact LeO.refl _ | exact LeO.none _ | refine LeO.ite ?_ ?_ | refine LeO.bind ?_ (fun _ => ?_)))
theorem impl_elementsOf.mono : ∀ a0 k, LeO (impl_elementsOf.f k a0) (impl_elementsOf.f (k + 1) a0) := by
 intro a0 k
 have ih0 := impl_elementsOf.mono_l k
 unfold impl_elementsOf.f
 repeat' first
   | (with_reducible exact ih0 _ _ _)
   | (with_reducible exact LeO.refl _)
   | (with_reducible exact LeO.none _)
   | (with_reducible refine LeO.ite ?_ ?_)
   | (with_reducible refine LeO.bind ?_ (fun _ => ?_))
set_option maxHeartbeats 8000000 in
set_option maxRecDepth 100000 in
theorem impl_elementsOf.calls (k : Nat) (a0 : Int) (r : List Int) (w : World) (h : impl_elementsOf.f k a0 = some r) :
  Calls Try.prog 53 #[.int .i64 a0] w fun e w' => ∃ v0_ : Value, e = .returned (v0_) ∧ Kd.R (Kd.int .i64) 3 w' w.heap.size (fun _ => True) v0_ r ∧ Below w.heap.size w w' := by
 have HB := aM_ (Below.refl w.heap.size w)
 have H : (impl_elementsOf.l0 k a0 ([] : List Int) 0) = some r := h
 clear h
 have H' := aM_ H
 clear H
 go_enter Try.func53, Try.ntmps53
 go_wp2
 go_loopg [3, 4] k (fun kq v3 v4 w' => ∃ (x3_1 : List Int) (x4_1 : Int), v4 = .int .i64 x4_1 ∧ Aside0 (impl_elementsOf.l0 kq a0 x3_1 x4_1 = some r) ∧ Aside0 (kq ≤ k) ∧ Aside0 (Kd.R (Kd.int .i64) 3 w' w.heap.size (fun _ => True) v3 x3_1) ∧ Aside0 (Below w.heap.size w w'))
 case atStart => exact ⟨(([] : List Int)), (0), veq_, H', ⟨Nat.le_refl _⟩, ⟨by first | exact Kd.R_nil _ _ _ _ _ | exact Kd.N_nil _ _ _ _ _ | exact Kd.V_nil _ _ _ _ _ | exact Kd.Q_nil _ _ _ _ _ | exact Kd.S_nil _ _ _ _ _⟩, ⟨bB_ HB⟩⟩
 case round =>
  clear H'
  obtain ⟨x3_1, x4_1, rfl, HA, HK1, HO_3, HB⟩ := hrel
  cases gk with
  | zero => exact absurd HA.out (by simp [impl_elementsOf.l0])
  | succ k1 =>
   have H := HA.out
   clear HA
   simp only [impl_elementsOf.l0] at H
   rcases ifd_ H with ⟨c2b0, H⟩ | ⟨c2b0, H⟩
   ·obtain ⟨c3, H⟩ := ifp_ H
    have c3b0 := eq_true c3
    have c3b1 := decide_eq_true c3
    clear c3
    obtain ⟨ji4, hji4⟩ : ∃ j_ : Int, (shr .i64 a0 x4_1) = j_ := ⟨_, rfl⟩
    replace H : (if (Go.bits .and .i64 (ji4) 1) = 1 then (if x3_1.length < 17592186044416 then (impl_elementsOf.l0 k1 a0 (x3_1 ++ [x4_1]) (wrap64 (x4_1 + 1))) else (none)) else (impl_elementsOf.l0 k1 a0 x3_1 (wrap64 (x4_1 + 1)))) = some r := by first | (rw [hji4] at H; exact H) | (simp only [hji4] at H ⊢; exact H)
    have hji4_ : (a0 / 2 ^ min x4_1.toNat 64) = ji4 := hji4
    have hji4z : x4_1 ≤ 64 → (a0 / 2 ^ x4_1.toNat) = ji4 := shr_small hji4
    rcases ifc_ H with ⟨c5, H⟩ | ⟨c5, H⟩
    ·have c5b0 : ((Go.bits .and .i64 (ji4) 1) == 1) = true := beq_iff_eq.mpr c5
     have c5b1 : ((Go.bits .and .i64 (ji4) 1) != 1) = false := bne_eq_false_iff_eq.mpr c5
     clear c5
     obtain ⟨c6, H⟩ := ifp_ H
     have LMc6 := aM_ c6
     clear c6
     obtain ⟨y101, hy101⟩ : ∃ y_ : List Int, y_ = (x3_1 ++ [x4_1]) := ⟨_, rfl⟩
     replace H : (impl_elementsOf.l0 k1 a0 y101 (wrap64 (x4_1 + 1))) = some r := by first | (rw [hy101]; with_reducible exact H) | (have H2_ := (Option.bind_some _ _).symm.trans H; rw [hy101]; with_reducible exact H2_) | (have H2_ := (Option.bind_some _ _).symm.trans H; with_reducible exact H2_) | with_reducible exact H | (rw [hy101]; exact H) | exact H
     have Ny101 := aM_ hy101
     clear hy101
     have H' := aM_ H
     clear H
     go_wp2_with (first | ((with_reducible refine gate_builtin (b := .append) (xs := #[.tmp 14, .tmp 16]) rfl ?_); at_builtin; refine Kd.R_append (Kd.int .i64) (w0 := w) w.heap.size rfl (.tmp 14) (.tmp 16) 31 3 (.int .i64 0) 8 rfl Try.underlying31 info3 rfl (by decide) (by omega) u3 x3_1 x4_1 [.int .i64 x4_1] (fun _ => True) (fun _ => False) rfl rfl ?aP (fun _ hk => hk.elim) ?aF ?aO ?aB ?aS ?aL ?_; (case aP => exact rfl); (case aB => exact (bB_ HB)); (case aF => exact (fun _ _ => trivial)); (case aO => exact (kr_ HO_3)); (case aS => exact (below_size (bB_ HB))); (case aL => have := LMc6.out; omega); intro v102 w7 ho hb hg hat; rw [← Ny101.out] at ho; replace HB := aM_ (hb); have HO103 := aM_ (ho); clear HO_3; clear ho hb hg hat))
     go_roundg k1
     case measure => have := HK1.out; omega
     case rel => exact ⟨(y101), (wrap64 (x4_1 + 1)), veq_, H', ⟨by have := HK1.out; omega⟩, ⟨kr_ HO103⟩, ⟨bB_ HB⟩⟩
    ·have c5b0 : ((Go.bits .and .i64 (ji4) 1) == 1) = false := beq_eq_false_iff_ne.mpr c5
     have c5b1 : ((Go.bits .and .i64 (ji4) 1) != 1) = true := bne_iff_ne.mpr c5
     have H' := aM_ H
     clear H
     go_wp2
     go_roundg k1
     case measure => have := HK1.out; omega
     case rel => exact ⟨(x3_1), (wrap64 (x4_1 + 1)), veq_, H', ⟨by have := HK1.out; omega⟩, ⟨kr_ HO_3⟩, ⟨bB_ HB⟩⟩
   ·obtain rfl := Option.some.inj H
    go_wp2
    go_ret
    exact ⟨_, verr_, kr_ HO_3, bB_ HB⟩
end Go.Proofs.Yteaagaekdkolnaa.P

namespace Go.Proofs.Yteaagaekdkolnaa.P
open Go.RowKit Go.Proofs.YteaagaekdkolnaaW.PrintWords Go.Proofs.YteaagaekdkolnaaW.PrintLast Go.Proofs.YteaagaekdkolnaaW.PrintMore
attribute [local go_sem] max2_int min2_int max_two min_two max_three min_three max_four min_four   -- for this text's walks alone
set_option linter.unusedVariables false
set_option linter.unusedSimpArgs false
/-! ### impl_opposite: function 73 -/
def flipU (b : UInt8) : UInt8 := if b = 43 then 45 else if b = 45 then 43 else b
def flipI (b : Int) : Int := if b = 43 then 45 else if b = 45 then 43 else b
theorem flip_is (b : UInt8) : flipI (b.toNat : Int) = ((flipU b).toNat : Int) := by
 unfold flipI flipU
 by_cases h1 : b = 43
 ·subst h1; rfl
 ·have e1 : ¬ ((b.toNat : Int) = 43) := fun e => h1 (by apply UInt8.toNat_inj.1; show b.toNat = 43; omega)
  rw [if_neg h1, if_neg e1]
  by_cases h2 : b = 45
  ·subst h2; rfl
  ·have e2 : ¬ ((b.toNat : Int) = 45) := fun e => h2 (by apply UInt8.toNat_inj.1; show b.toNat = 45; omega)
   rw [if_neg h2, if_neg e2]
def oppText (s : ByteArray) : ByteArray := ⟨(s.data.toList.map flipU).toArray⟩
def oppL (s : ByteArray) : List Int := s.data.toList.map fun b => (b.toNat : Int)
theorem oppL_length (s : ByteArray) : (oppL s).length = s.size := by unfold oppL; rw [List.length_map, Array.length_toList]; rfl
def impl_opposite.f (a0 : ByteArray) : Option ByteArray := if a0.size < 4611686018427387904 then some (oppText a0) else none
theorem blk_setF {w : World} {g : Nat} {t : TypeId} {fr : Nat × Nat} {cs : Array Value} (h : w.heap[g]? = some (.cells cs t fr)) (i : Nat) (u : Value) : (w.setCell ⟨g, i, none⟩ u).heap[g]? = some (.cells (cs.setIfInBounds i u) t fr) := by
 simp [World.setCell, Array.getElem?_modify, h]
theorem blk_frozenF {w : World} {g : Nat} {t : TypeId} {lo hi : Nat} {cs : Array Value} (h : w.heap[g]? = some (.cells cs t (lo, hi))) (i : Nat) (hi : i < lo) : w.frozen? ⟨g, i, none⟩ = false := by
 simp [World.frozen?, h]
 omega
def oppRow (w' : World) (g m : Nat) (xs : List Int) : Prop := ∃ cur, w'.heap[g]? = some (.cells cur 5 (m, m + 1)) ∧ xs.length ≤ m ∧ ∀ j, j < xs.length → cur[j]? = some (.int .u8 (xs.getD j 0))
theorem oppRow_cell {w' : World} {g m : Nat} {xs : List Int} (h : oppRow w' g m xs) (j : Nat) (hj : j < xs.length) : w'.cell? ⟨g, j, none⟩ = some (.int .u8 (xs.getD j 0)) ∧ w'.frozen? ⟨g, j, none⟩ = false := by
 obtain ⟨cur, h1, h2, h3⟩ := h
 exact ⟨(cell_of_row w' g j cur _ _ h1).trans (h3 j hj), blk_frozenF h1 j (by omega)⟩
theorem oppRow_set {w' : World} {g m : Nat} {xs : List Int} (h : oppRow w' g m xs) (j : Nat) (v : Int) : oppRow (w'.setCell ⟨g, j, none⟩ (.int .u8 v)) g m (xs.set j v) := by
 obtain ⟨cur, h1, h2, h3⟩ := h
 refine ⟨_, blk_setF h1 j _, by rw [List.length_set]; exact h2, fun i hi => ?_⟩
 rw [List.length_set] at hi
 rw [Array.getElem?_setIfInBounds]
 by_cases e : j = i
 ·subst e
  have : j < cur.size := by
   have := h3 j hi
   rcases Nat.lt_or_ge j cur.size with h | h
   ·exact h
   ·rw [Array.getElem?_eq_none h] at this; cases this
  rw [if_pos rfl, if_pos this]
  simp [List.getD_eq_getElem?_getD, hi]
 ·rw [if_neg e, h3 i hi]
  simp [List.getD_eq_getElem?_getD, e]
theorem opp_new (w : World) (s : ByteArray) : oppRow (Lib.bytesWorld w 5 s) w.heap.size (Lib.bytesCells w 5 s).size (oppL s) := by
 refine ⟨_, Lib.bytesWorld_at_new w _ s, ?_, fun j hj => ?_⟩
 ·rw [oppL_length]
  unfold Lib.bytesCells
  rw [Array.size_append, Array.size_map]
  exact Nat.le_add_right _ _
 ·rw [oppL_length] at hj
  have hj' : j < s.data.size := hj
  unfold Lib.bytesCells
  rw [Array.getElem?_append_left (by simpa using hj')]
  rw [Array.getElem?_map, Array.getElem?_eq_getElem hj', Option.map_some]
  simp only [oppL, List.getD_eq_getElem?_getD, List.getElem?_map, Array.getElem?_toList, Array.getElem?_eq_getElem hj', Option.map_some, Option.getD_some]
theorem opp_below (w : World) (s : ByteArray) : Below w.heap.size w (Lib.bytesWorld w 5 s) := Lib.bytesWorld_below w 5 s
theorem getD_app1 (A B : List Int) (j : Nat) (h : A.length = j) (hB : B ≠ []) : (A ++ B).getD j 0 = B.getD 0 0 := by
 subst h
 rw [List.getD_eq_getElem?_getD, List.getElem?_append_right (Nat.le_refl _), Nat.sub_self, List.getD_eq_getElem?_getD]
set_option maxHeartbeats 8000000 in
set_option maxRecDepth 100000 in
theorem impl_opposite.calls (a0 : ByteArray) (r : ByteArray) (w : World) (h : impl_opposite.f a0 = some r) :
  Calls Try.prog 73 #[.string a0] w fun e w' => e = .returned (.string r) ∧ Below w.heap.size w w' := by
 unfold impl_opposite.f at h
 by_cases hb : a0.size < 4611686018427387904
 case neg => rw [if_neg hb] at h; cases h
 rw [if_pos hb] at h
 obtain rfl := Option.some.inj h
 clear h
 have hcv := Lib.run_convert_string_bytes (P := Try.prog) w 9 82 5 a0 Try.underlying9 Try.underlying82 Try.underlying5
 have HR := aM_ (opp_new w a0)
 have HB := aM_ (opp_below w a0)
 have HS := aM_ hb
 have HL := aM_ (oppL_length a0)
 clear hb
 go_enter Try.func73, Try.ntmps73
 go_wp2
 clear hcv
 generalize Lib.bytesWorld w 5 a0 = w1 at HR HB ⊢
 obtain ⟨m, hm⟩ : ∃ m, (Lib.bytesCells w 5 a0).size = m := ⟨_, rfl⟩
 rw [hm] at HR
 clear hm
 generalize grownCap w a0.size 0 5 = cap
 obtain ⟨g1, hg1⟩ : ∃ g1, w.heap.size = g1 := ⟨_, rfl⟩
 have HG := aM_ hg1
 rw [hg1] at HR ⊢
 clear hg1
 go_loopg [4, 5, 10, 16, 21] a0.size (fun gg v4 v5 v10 v16 v21 w' => ∃ (x : Int) (ix : Nat) (xs : List Int), v10 = .int .i64 x ∧ Aside0 (x = (ix : Int)) ∧ Aside0 (gg + ix = a0.size) ∧ Aside0 (xs = ((oppL a0).take ix).map flipI ++ (oppL a0).drop ix) ∧ Aside0 (oppRow w' g1 m xs) ∧ Aside0 (Below w.heap.size w w'))
 case atStart => exact ⟨0, 0, oppL a0, rfl, ⟨rfl⟩, ⟨rfl⟩, ⟨by simp⟩, HR, HB⟩
 case round =>
  clear HR HB
  obtain ⟨x, ix, xs, rfl, HX, HGG, HXS, HR, HB⟩ := hrel
  by_cases c : x < (a0.size : Int)
  ·have c0 : decide (x < (a0.size : Int)) = true := decide_eq_true c
   have hix : ix < a0.size := by have := HX.out; omega
   have hlen : xs.length = a0.size := by rw [HXS.out]; simp [HL.out]; omega
   have hxn : x.toNat = ix := by have := HX.out; omega
   have p1 : (0 ≤ x) = True := eq_true (by have := HX.out; omega)
   have q1 : (x < (a0.size : Int)) = True := eq_true c
   obtain ⟨hx0, hf0⟩ := oppRow_cell HR.out x.toNat (by omega)
   have hv : xs.getD x.toNat 0 = (oppL a0).getD ix 0 := by
    rw [HXS.out, hxn, getD_app1 _ _ ix (by simp [HL.out]; omega) (by intro e; have := congrArg List.length e; simp only [List.length_drop, HL.out, List.length_nil] at this; omega)]
    simp [List.getD_eq_getElem?_getD]
   have hstep : ((oppL a0).take (ix + 1)).map flipI ++ (oppL a0).drop (ix + 1) = xs.set x.toNat (flipI ((oppL a0).getD ix 0)) := by
    have hl : ix < (oppL a0).length := by rw [HL.out]; exact hix
    rw [HXS.out, hxn, List.take_add_one, List.getElem?_eq_getElem hl, List.map_append, List.set_append_right _ _ (by simp; omega), List.drop_eq_getElem_cons hl]
    simp [List.getD_eq_getElem?_getD, hl, Nat.min_eq_left (Nat.le_of_lt hl)]
    rw [List.drop_eq_getElem_cons hl]
    rfl
   have hsame : flipI ((oppL a0).getD ix 0) = (oppL a0).getD ix 0 → xs.set x.toNat (flipI ((oppL a0).getD ix 0)) = xs := by
    intro e
    rw [e, ← hv]
    apply List.ext_getElem?
    intro q
    rw [List.getElem?_set]
    by_cases e : x.toNat = q
    ·subst e; simp [List.getD_eq_getElem?_getD, show x.toNat < xs.length by omega]
    ·rw [if_neg e]
   rw [hv] at hx0
   generalize (oppL a0).getD ix 0 = v at hx0 hstep hsame
   have HST := aM_ hstep
   have HSM := aM_ hsame
   have HIX := aM_ hix
   have HW : wrap64 (x + 1) = ((ix + 1 : Nat) : Int) := by have := HX.out; have := HS.out; unfold wrap64; omega
   have HW := aM_ HW
   clear c hix hlen hxn hv hstep hsame
   by_cases v1 : v = 43
   ·have d1 : decide (v = 43) = true := decide_eq_true v1
    have d1b : (v == 43) = true := beq_iff_eq.2 v1
    have HF := aM_ (show flipI v = 45 by unfold flipI; rw [if_pos v1])
    clear v1
    go_wp2
    go_roundg (gk - 1)
    case measure => have := HGG.out; have := HIX.out; omega
    case rel => exact ⟨wrap64 (x + 1), ix + 1, xs.set x.toNat 45, by first | rfl | (simp; done), HW, ⟨by have := HGG.out; have := HIX.out; omega⟩, ⟨by rw [HST.out, HF.out]⟩, ⟨oppRow_set HR.out _ _⟩, ⟨below_set HB.out (by rw [HG.out]; exact Nat.le_refl _)⟩⟩
   ·have d1 : decide (v = 43) = false := decide_eq_false v1
    have d1b : (v == 43) = false := beq_eq_false_iff_ne.2 v1
    by_cases v2 : v = 45
    ·have d2 : decide (v = 45) = true := decide_eq_true v2
     have d2b : (v == 45) = true := beq_iff_eq.2 v2
     have HF := aM_ (show flipI v = 43 by unfold flipI; rw [if_neg v1, if_pos v2])
     clear v1 v2
     go_wp2
     go_roundg (gk - 1)
     case measure => have := HGG.out; have := HIX.out; omega
     case rel => exact ⟨wrap64 (x + 1), ix + 1, xs.set x.toNat 43, by first | rfl | (simp; done), HW, ⟨by have := HGG.out; have := HIX.out; omega⟩, ⟨by rw [HST.out, HF.out]⟩, ⟨oppRow_set HR.out _ _⟩, ⟨below_set HB.out (by rw [HG.out]; exact Nat.le_refl _)⟩⟩
    ·have d2 : decide (v = 45) = false := decide_eq_false v2
     have d2b : (v == 45) = false := beq_eq_false_iff_ne.2 v2
     have HF := aM_ (show flipI v = v by unfold flipI; rw [if_neg v1, if_neg v2])
     clear v1 v2
     go_wp2
     go_roundg (gk - 1)
     case measure => have := HGG.out; have := HIX.out; omega
     case rel => exact ⟨wrap64 (x + 1), ix + 1, xs, by first | rfl | (simp; done), HW, ⟨by have := HGG.out; have := HIX.out; omega⟩, ⟨by rw [HST.out, HSM.out HF.out]⟩, HR, HB⟩
  ·have c0 : decide (x < (a0.size : Int)) = false := decide_eq_false c
   have HE := aM_ (show ix = a0.size by have := HX.out; have := HGG.out; omega)
   clear c
   have hcv : (convert 82 9 (.slice (some ⟨g1, 0, none⟩) a0.size cap)).run Try.prog wr = .ok (.string (oppText a0)) wr := by
    have hl : (a0.data.toList.map flipU).length = a0.size := by rw [List.length_map, Array.length_toList]; rfl
    have := run_convert_bytes_back (P := Try.prog) wr 82 9 5 ⟨g1, 0, none⟩ cap (a0.data.toList.map flipU) Try.underlying82 Try.underlying5 Try.underlying9 (fun j hj => by
     have hxs : xs = (oppL a0).map flipI := by rw [HXS.out, HE.out, List.take_of_length_le (by rw [HL.out]; exact Nat.le_refl _), List.drop_of_length_le (by rw [HL.out]; exact Nat.le_refl _), List.append_nil]
     have hj2 : j < a0.size := by omega
     have hj3 : j < a0.data.size := hj2
     obtain ⟨h1, _⟩ := oppRow_cell HR.out j (by rw [hxs, List.length_map, HL.out]; exact hj2)
     rw [show (⟨g1, 0, none⟩ : Addr).add j = ⟨g1, j, none⟩ by (simp [Addr.add]; omega), h1, hxs]
     simp only [oppL, List.getD_eq_getElem?_getD, List.getElem?_map, Array.getElem?_toList, Array.getElem?_eq_getElem hj3, Option.map_some, Option.getD_some, List.getElem_map, Array.getElem_toList, flip_is])
    rw [hl] at this
    exact this
   go_wp2
   go_ret
   exact ⟨rfl, HB.out⟩
end Go.Proofs.Yteaagaekdkolnaa.P

namespace Go.Proofs.Yteaagaekdkolnaa.P
open Go.RowKit Go.Proofs.YteaagaekdkolnaaW.PrintWords Go.Proofs.YteaagaekdkolnaaW.PrintLast Go.Proofs.YteaagaekdkolnaaW.PrintMore
attribute [local go_sem] max2_int min2_int max_two min_two max_three min_three max_four min_four   -- for this text's walks alone
set_option linter.unusedVariables false
set_option linter.unusedSimpArgs false
/-! ### impl_chi_circuit: function 72 -/
def circI (v : Int) : Int := if v > 0 then 43 else 45
def circL (T : Nat → Int) (a b c d : Int) : List Int := [T (tix b c d), wrap64 (-T (tix a c d)), T (tix a b d), wrap64 (-T (tix a b c))]
def circT (T : Nat → Int) (a b c d : Int) : ByteArray := if T (tix b c d) > 0 then strOfNums ((circL T a b c d).map circI) else oppText (strOfNums ((circL T a b c d).map circI))
def in7 (a : Int) : Prop := 0 ≤ a ∧ a < 7
instance (a : Int) : Decidable (in7 a) := inferInstanceAs (Decidable (_ ∧ _))
def impl_chi_circuit.f (s0_0 : Int) (s0_1 : Nat → Int) (a1 a2 a3 a4 : Int) : Option (ByteArray × Int × (Nat → Int)) := if in7 a1 ∧ in7 a2 ∧ in7 a3 ∧ in7 a4 then some (circT s0_1 a1 a2 a3 a4, s0_0, s0_1) else none
theorem run_event {P : Program} {ops : Array Oper} {o : Oper} {a : Act} {Q : Exit → Act → World → Prop} {W W1 : World} {Kc : Act → World → Prop} {N : Tmp} {v : Value} (hN : o.dst = some N) (hw : Region.wanted o (yielded ops a.tmps) = true) (hrun : (execOp a.eval o).run P W = .ok (.value v) W1)
  (h : Kc (a.put (some N) v) W1) : if Region.wanted o (yielded ops a.tmps) = true then Oper.wp P o a W Kc Q else Kc (a.put (some N) undef) W := by
 rw [if_pos hw]
 unfold Oper.wp
 rw [hrun]
 show Kc (a.put o.dst v) _
 rw [hN]
 exact h
def circT2 : Bool × List (List Nat × List Nat) := (true, [([], []), ([], []), ([], []), ([], []), ([0], [0]), ([4], [4]), ([5, 1], [1, 5]), ([6, 2], [2, 6]), ([7, 3], [3, 7]), ([8], [8]), ([], []), ([], []), ([], []), ([], []), ([10], [10]), ([14], [14]), ([15, 11], [11, 15]), ([16, 12], [12, 16]), ([17, 13], [13, 17]), ([18], [18]), ([19], [19]), ([], []), ([], []), ([], []), ([], []), ([21], [21]), ([25], [25]), ([26, 22], [22, 26]), ([27, 23], [23, 27]), ([28, 24], [24, 28]), ([29], [29]), ([], []), ([], []), ([], []), ([], []), ([31], [31]), ([35], [35]), ([36, 32], [32, 36]), ([37, 33], [33, 37]), ([38, 34], [34, 38]), ([39], [39]), ([40], [40]), ([9, 20, 30, 41], [9, 20, 30, 41]), ([42], [42]), ([], [])])
def circB2 : List Nat := [0, 0, 0, 0, 1, 17, 51, 119, 255, 511, 0, 0, 0, 0, 1024, 17408, 52224, 121856, 261120, 523264, 1047552, 0, 0, 0, 0, 2097152, 35651584, 106954752, 249561088, 534773760, 1071644672, 0, 0, 0, 0, 2147483648, 36507222016, 109521666048, 255550554112, 547608330240, 1097364144128, 2196875771904, 4398046511103, 8796093022207, 0]
theorem circ_tab2 : rtab .any (opsOf Try.f72 2) = circT2 := by kernel_rfl
theorem circ_bits2 : waitsOk circT2.2 circB2 = true := by kernel_rfl
theorem cell_keep {w w1 : World} {p : Addr} {v : Value} (hb : Below w.heap.size w w1) (h : w.cell? p = some v) : w1.cell? p = some v := (hb.cell (World.block_lt_of_cell? _ _ h)).trans h
set_option maxHeartbeats 8000000 in
set_option maxRecDepth 100000 in
theorem impl_chi_circuit.calls (g : Nat) (s0_0 : Int) (s0_1 : Nat → Int) (a1 a2 a3 a4 : Int) (r1 : ByteArray) (r2 : Int) (r3 : Nat → Int) (w0 w : World) (hI : IsS74 w0 w g s0_0 s0_1) (hB : Below w0.heap.size w0 w) (h : impl_chi_circuit.f s0_0 s0_1 a1 a2 a3 a4 = some (r1, r2, r3)) :
  Calls Try.prog 72 #[.pointer (some ⟨g, 0, none⟩), .int .i64 a1, .int .i64 a2, .int .i64 a3, .int .i64 a4] w fun e w' => e = .returned (.string r1) ∧ IsS74 w0 w' g r2 r3 ∧ Below w0.heap.size w0 w' ∧ KeepBut w w' g none := by
 unfold impl_chi_circuit.f at h
 by_cases hc : in7 a1 ∧ in7 a2 ∧ in7 a3 ∧ in7 a4
 case neg => rw [if_neg hc] at h; cases h
 rw [if_pos hc] at h
 simp only [Option.some.injEq, Prod.mk.injEq] at h
 obtain ⟨rfl, rfl, rfl⟩ := h
 obtain ⟨h1, h2, h3, h4⟩ := hc
 suffices hs : Calls Try.prog 72 #[.pointer (some ⟨g, 0, none⟩), .int .i64 a1, .int .i64 a2, .int .i64 a3, .int .i64 a4] w fun e w' => e = .returned (.string (circT s0_1 a1 a2 a3 a4)) ∧ Below w.heap.size w w' by
  refine hs.mono ?_
  rintro e w' ⟨he, hb⟩
  exact ⟨he, hI.below hb, below_step hB hb, KeepBut.of_below hb g none⟩
 have hat := chi_at7 hI
 have k0 := hat a2 a3 a4 h2 h3 h4
 have k1 := hat a1 a3 a4 h1 h3 h4
 have k2 := hat a1 a2 a4 h1 h2 h4
 have k3 := hat a1 a2 a3 h1 h2 h3
 have hr : circT s0_1 a1 a2 a3 a4 = if s0_1 (a2.toNat * 49 + a3.toNat * 7 + a4.toNat) > 0 then strOfNums ([s0_1 (a2.toNat * 49 + a3.toNat * 7 + a4.toNat), wrap64 (-s0_1 (a1.toNat * 49 + a3.toNat * 7 + a4.toNat)), s0_1 (a1.toNat * 49 + a2.toNat * 7 + a4.toNat), wrap64 (-s0_1 (a1.toNat * 49 + a2.toNat * 7 + a3.toNat))].map circI) else oppText (strOfNums ([s0_1 (a2.toNat * 49 + a3.toNat * 7 + a4.toNat), wrap64 (-s0_1 (a1.toNat * 49 + a3.toNat * 7 + a4.toNat)), s0_1 (a1.toNat * 49 + a2.toNat * 7 + a4.toNat), wrap64 (-s0_1 (a1.toNat * 49 + a2.toNat * 7 + a3.toNat))].map circI)) := rfl
 rw [hr]
 generalize s0_1 (a2.toNat * 49 + a3.toNat * 7 + a4.toNat) = v0 at k0 ⊢
 generalize s0_1 (a1.toNat * 49 + a3.toNat * 7 + a4.toNat) = v1 at k1 ⊢
 generalize s0_1 (a1.toNat * 49 + a2.toNat * 7 + a4.toNat) = v2 at k2 ⊢
 generalize s0_1 (a1.toNat * 49 + a2.toNat * 7 + a3.toNat) = v3 at k3 ⊢
 obtain ⟨R, hR⟩ : ∃ R, (if v0 > 0 then strOfNums ([v0, wrap64 (-v1), v2, wrap64 (-v3)].map circI) else oppText (strOfNums ([v0, wrap64 (-v1), v2, wrap64 (-v3)].map circI))) = R := ⟨_, rfl⟩
 rw [hR]
 have HRES := aM_ hR
 clear hR
 have I58a := chi_ix58 g a1 h1
 have I58b := chi_ix58 g a2 h2
 have I57b := chi_ix57 g a2 h2
 have I57c := chi_ix57 g a3 h3
 have I56c := chi_ix56 g a3 h3
 have I56d := chi_ix56 g a4 h4
 have HK0 := aM_ k0
 have HK1 := aM_ k1
 have HK2 := aM_ k2
 have HK3 := aM_ k3
 have HB := aM_ (Below.refl w.heap.size w)
 clear hat k0 k1 k2 k3 hI hB hr h1 h2 h3 h4
 go_enter Try.func72, Try.ntmps72
 go_wp2_with fail
 refine start_ (n := 45) (S := fun w' => w'.cell? ⟨g, 1 + a2.toNat * 49 + a3.toNat * 7 + a4.toNat, none⟩ = some (.int .i64 v0) ∧ w'.cell? ⟨g, 1 + a1.toNat * 49 + a3.toNat * 7 + a4.toNat, none⟩ = some (.int .i64 v1) ∧ w'.cell? ⟨g, 1 + a1.toNat * 49 + a2.toNat * 7 + a4.toNat, none⟩ = some (.int .i64 v2) ∧ w'.cell? ⟨g, 1 + a1.toNat * 49 + a2.toNat * 7 + a3.toNat, none⟩ = some (.int .i64 v3)) (ds := []) (bm 45 0) (by kernel_rfl) rfl rfl ⟨HK0.out, HK1.out, HK2.out, HK3.out⟩ (fun hHeld => ?_); refine with_tabW circ_tab2 circ_bits2 (fun HT_ HW_ => ?_)
 have HB := aM_ (bD_ HB.out)
 have HK0 := aM_ (show w.drew.cell? ⟨g, 1 + a2.toNat * 49 + a3.toNat * 7 + a4.toNat, none⟩ = some (.int .i64 v0) from HK0.out)
 have HK1 := aM_ (show w.drew.cell? ⟨g, 1 + a1.toNat * 49 + a3.toNat * 7 + a4.toNat, none⟩ = some (.int .i64 v1) from HK1.out)
 have HK2 := aM_ (show w.drew.cell? ⟨g, 1 + a1.toNat * 49 + a2.toNat * 7 + a4.toNat, none⟩ = some (.int .i64 v2) from HK2.out)
 have HK3 := aM_ (show w.drew.cell? ⟨g, 1 + a1.toNat * 49 + a2.toNat * 7 + a3.toNat, none⟩ = some (.int .i64 v3) from HK3.out)
 generalize w.drew = wB at HB HK0 HK1 HK2 HK3 hHeld ⊢
 refine plan_ ((0, 0, 14, 1) :: (0, 1, 15, 3) :: (0, 2, 16, 7) :: (0, 3, 17, 15) :: (0, 4, 18, 31) :: (0, 5, 19, 63) :: (0, 6, 20, 127) :: (0, 7, 21, 255) :: (0, 8, 22, 511) :: (2, 9, 23, 1023) :: (0, 10, 24, 2047) :: (0, 11, 25, 4095) :: (0, 12, 26, 8191) :: (0, 13, 27, 16383) :: (0, 14, 28, 32767) :: (0, 15, 29, 65535) :: (0, 16, 30, 131071) :: (0, 17, 31, 262143) :: (0, 18, 32, 524287) :: (2, 19, 33, 1048575) :: (0, 20, 34, 2097151) :: (0, 21, 35, 4194303) :: (0, 22, 36, 8388607) :: (0, 23, 37, 16777215) :: (0, 24, 38, 33554431) :: (0, 25, 39, 67108863) :: (0, 26, 40, 134217727) :: (0, 27, 41, 268435455) :: (0, 28, 42, 536870911) :: (0, 29, 43, 1073741823) :: (2, 30, 44, 2147483647) :: (0, 31, 45, 4294967295) :: (0, 32, 46, 8589934591) :: (0, 33, 47, 17179869183) :: (0, 34, 48, 34359738367) :: (0, 35, 49, 68719476735) :: (0, 36, 50, 137438953471) :: (0, 37, 51, 274877906943) :: (0, 38, 52, 549755813887) :: (0, 39, 53, 1099511627775) :: (2, 40, 54, 2199023255551) :: (0, 41, 55, 4398046511103) :: (0, 44, 58, 21990232555519) :: []) ?_
 iterate 43 (first | (refine planV_ ?_ ?_ rfl rfl (any_of HT_.out (by kernel_rfl)) (fun _ _ _ h => h) (Or.inl ⟨by rfl, ?_⟩) ?_ ?_; rotate_left 2; (· intro w'; go_simp; with_reducible rfl); (· simp only [Act.put, List.setIfInBounds_toArray, List.set_cons_zero, List.set_cons_succ, i64_w, i32_w]; rfl)) | (refine planT_ ?_ ?_ rfl rfl (take_ofW HT_.out HW_.out (by kernel_rfl)) (fun _ _ _ h => h) (Or.inl ⟨by rfl, ?_⟩) hHeld ?_ ?_; rotate_left 2; (· rintro w' ⟨s0, s1, s2, s3⟩; go_simp; with_reducible rfl); (· simp only [Act.put, List.setIfInBounds_toArray, List.set_cons_zero, List.set_cons_succ, i64_w, i32_w]; rfl)))
 refine planEnd_ ?_
 refine one_ (i := 42) (N := some 56) (bm 45 26388279066623) rfl rfl (one_of HT_.out (by kernel_rfl)) (by decide) (fun K hK => ?_)
 refine run_event (v := .slice (some ⟨wB.heap.size, 0, none⟩) 4 4) (W1 := wB.alloc (.cells #[.int .i64 v0, .int .i64 (wrap64 (-v1)), .int .i64 v2, .int .i64 (wrap64 (-v3))] 3 (0, 0))) rfl (by rfl) (by first | (go_simp; done) | (go_simp; rfl)) ?_
 have hba := bA_ (Below.refl wB.heap.size wB) (.cells #[.int .i64 v0, .int .i64 (wrap64 (-v1)), .int .i64 v2, .int .i64 (wrap64 (-v3))] 3 (0, 0))
 have BKN := aM_ (blk_new wB (.cells #[.int .i64 v0, .int .i64 (wrap64 (-v1)), .int .i64 v2, .int .i64 (wrap64 (-v3))] 3 (0, 0)))
 have HB := aM_ (below_step HB.out hba)
 have hs_ : (wB.alloc (.cells #[.int .i64 v0, .int .i64 (wrap64 (-v1)), .int .i64 v2, .int .i64 (wrap64 (-v3))] 3 (0, 0))).cell? ⟨g, 1 + a2.toNat * 49 + a3.toNat * 7 + a4.toNat, none⟩ = some (.int .i64 v0) ∧ (wB.alloc (.cells #[.int .i64 v0, .int .i64 (wrap64 (-v1)), .int .i64 v2, .int .i64 (wrap64 (-v3))] 3 (0, 0))).cell? ⟨g, 1 + a1.toNat * 49 + a3.toNat * 7 + a4.toNat, none⟩ = some (.int .i64 v1) ∧ (wB.alloc (.cells #[.int .i64 v0, .int .i64 (wrap64 (-v1)), .int .i64 v2, .int .i64 (wrap64 (-v3))] 3 (0, 0))).cell? ⟨g, 1 + a1.toNat * 49 + a2.toNat * 7 + a4.toNat, none⟩ = some (.int .i64 v2) ∧ (wB.alloc (.cells #[.int .i64 v0, .int .i64 (wrap64 (-v1)), .int .i64 v2, .int .i64 (wrap64 (-v3))] 3 (0, 0))).cell? ⟨g, 1 + a1.toNat * 49 + a2.toNat * 7 + a3.toNat, none⟩ = some (.int .i64 v3) := ⟨cell_keep hba HK0.out, cell_keep hba HK1.out, cell_keep hba HK2.out, cell_keep hba HK3.out⟩
 refine hK.out _ _ hs_ (fun hHeld => ?_)
 clear hK K hs_ hba HK0 HK1 HK2 HK3
 obtain ⟨gN, hgN⟩ : ∃ gN, wB.heap.size = gN := ⟨_, rfl⟩
 rw [hgN] at BKN ⊢
 generalize wB.alloc (.cells #[.int .i64 v0, .int .i64 (wrap64 (-v1)), .int .i64 v2, .int .i64 (wrap64 (-v3))] 3 (0, 0)) = wC at HB BKN hHeld ⊢
 clear hgN
 refine plan_ ((0, 43, 57, 35184372088831) :: []) ?_
 iterate 1 (refine planV_ ?_ ?_ rfl rfl (any_of HT_.out (by kernel_rfl)) (fun _ _ _ h => h) (Or.inl ⟨by rfl, ?_⟩) ?_ ?_; rotate_left 2; (· intro w'; go_simp; with_reducible rfl); (· simp only [Act.put, List.setIfInBounds_toArray, List.set_cons_zero, List.set_cons_succ, i64_w, i32_w]; rfl))
 refine planEnd_ ?_
 refine done_ (done_of HT_.out (by kernel_rfl)) ?_
 clear HT_ HW_ hHeld I58a I58b I57b I57c I56c I56d
 go_wp2
 go_loopg [11, 58] 4 (fun kq v11 v58 w' => ∃ (x : Int) (ix : Nat) (tx : List Int), v58 = .int .i64 x ∧ Aside0 (x = (ix : Int)) ∧ Aside0 (kq + ix = 4) ∧ Aside0 (tx = ([v0, wrap64 (-v1), v2, wrap64 (-v3)].take ix).map circI) ∧ Aside0 (w'.heap[gN]? = some (.cells #[.int .i64 v0, .int .i64 (wrap64 (-v1)), .int .i64 v2, .int .i64 (wrap64 (-v3))] 3 (0, 0))) ∧ Aside0 (Kd.R (Kd.int .u8) 5 w' w.heap.size (fun _ => True) v11 tx) ∧ Aside0 (Below w.heap.size w w'))
 case atStart => exact ⟨0, 0, [], rfl, ⟨rfl⟩, ⟨rfl⟩, ⟨rfl⟩, BKN, ⟨Kd.R_nil _ _ _ _ _⟩, HB⟩
 case round =>
  clear BKN HB
  obtain ⟨x, ix, tx, rfl, HX, HK1, HT, BKN, HO_11, HB⟩ := hrel
  by_cases c5 : x < 4
  ·have c5b0 : decide (x < 4) = true := decide_eq_true c5
   have hx := HX.out
   have hix : ix < 4 := by omega
   have hxn : x.toNat = ix := by omega
   have p1 : (0 ≤ x) = True := eq_true (by omega)
   have q1 : (x < 4) = True := eq_true c5
   have hcs : ∀ q : Nat, q < 4 → (#[.int .i64 v0, .int .i64 (wrap64 (-v1)), .int .i64 v2, .int .i64 (wrap64 (-v3))] : Array Value)[q]? = some (.int .i64 ([v0, wrap64 (-v1), v2, wrap64 (-v3)].getD q 0)) := by
    intro q hq
    have : q = 0 ∨ q = 1 ∨ q = 2 ∨ q = 3 := by omega
    rcases this with rfl | rfl | rfl | rfl <;> rfl
   have hst : ∀ q : Nat, q < 4 → ([v0, wrap64 (-v1), v2, wrap64 (-v3)].take (q + 1)).map circI = ([v0, wrap64 (-v1), v2, wrap64 (-v3)].take q).map circI ++ [circI ([v0, wrap64 (-v1), v2, wrap64 (-v3)].getD q 0)] := by
    intro q hq
    have : q = 0 ∨ q = 1 ∨ q = 2 ∨ q = 3 := by omega
    rcases this with rfl | rfl | rfl | rfl <;> rfl
   have hx0 := (blk_cell BKN.out x.toNat).trans (hcs x.toNat (by omega))
   have hf0 := blk_frozen BKN.out x.toNat
   have hs1 := hst ix hix
   rw [hxn] at hx0
   generalize ([v0, wrap64 (-v1), v2, wrap64 (-v3)] : List Int).getD ix 0 = v at hx0 hs1
   rw [← hxn] at hx0
   have HST := aM_ hs1
   have HIX := aM_ hix
   have HLT := aM_ (show tx.length ≤ 4 by rw [HT.out]; simp; omega)
   have HW : wrap64 (x + 1) = ((ix + 1 : Nat) : Int) := by unfold wrap64; omega
   have HW := aM_ HW
   clear c5 hx hix hxn hcs hst hs1
   by_cases cv : v > 0
   ·have HQ := aM_ (show circI v = 43 by unfold circI; rw [if_pos cv])
    have cvb : decide (0 < v) = true := decide_eq_true cv
    clear cv
    go_wp2_with ((with_reducible refine gate_builtin (b := .append) (xs := #[.tmp 64, .tmp 65]) rfl ?_); at_builtin; refine Kd.R_append (Kd.int .u8) (w0 := w) w.heap.size rfl (.tmp 64) (.tmp 65) 82 5 (.int .u8 0) 1 rfl Try.underlying82 chi_info5 rfl (by decide) (by omega) u11 tx 43 [.int .u8 43] (fun _ => True) (fun _ => False) rfl rfl ?aP (fun _ hk => hk.elim) ?aF ?aO ?aB ?aS ?aL ?_; (case aP => exact rfl); (case aB => exact (by repeat (first | (with_reducible first | exact HB.out | apply bA_ | apply bN_ | apply bD_) | exact HB.out))); (case aF => exact (fun _ _ => trivial)); (case aO => exact (by (with_reducible repeat (first | apply kA_ | apply kN_ | apply kD_)); exact HO_11.out)); (case aS => exact (below_size (by repeat (first | (with_reducible first | exact HB.out | apply bA_ | apply bN_ | apply bD_) | exact HB.out)))); (case aL => have h1 := HLT.out; omega); intro v102 w7 ho hb hg hat; have n1_ := aM_ (blk_grown (g := gN) (o := .cells #[.int .i64 v0, .int .i64 (wrap64 (-v1)), .int .i64 v2, .int .i64 (wrap64 (-v3))] 3 (0, 0)) (by (with_reducible repeat (first | refine blk_drewN ?_ _ | refine blk_drew ?_ | refine blk_alloc ?_ _)); exact BKN.out) hg (Kd.R_ne HO_11.out BKN.out (by decide))); have n2_ := aM_ (hb); have n3_ := aM_ (ho); clear BKN; clear HB; clear HO_11; have BKN := n1_; have HB := n2_; have HO_11 := n3_; clear n1_ n2_ n3_; clear ho hb hg hat)
    go_roundg (gk - 1)
    case measure => have := HK1.out; have := HIX.out; omega
    case rel => exact ⟨wrap64 (x + 1), ix + 1, tx ++ [43], (by first | rfl | (simp; done) | (rw [HW.out]; first | rfl | (simp; done))), ⟨HW.out⟩, ⟨by have := HK1.out; have := HIX.out; omega⟩, ⟨by rw [HST.out, HT.out, HQ.out]⟩, ⟨BKN.out⟩, ⟨HO_11.out⟩, ⟨HB.out⟩⟩
   ·have HQ := aM_ (show circI v = 45 by unfold circI; rw [if_neg cv])
    have cvb : decide (0 < v) = false := decide_eq_false cv
    clear cv
    go_wp2_with ((with_reducible refine gate_builtin (b := .append) (xs := #[.tmp 67, .tmp 68]) rfl ?_); at_builtin; refine Kd.R_append (Kd.int .u8) (w0 := w) w.heap.size rfl (.tmp 67) (.tmp 68) 82 5 (.int .u8 0) 1 rfl Try.underlying82 chi_info5 rfl (by decide) (by omega) u11 tx 45 [.int .u8 45] (fun _ => True) (fun _ => False) rfl rfl ?aP (fun _ hk => hk.elim) ?aF ?aO ?aB ?aS ?aL ?_; (case aP => exact rfl); (case aB => exact (by repeat (first | (with_reducible first | exact HB.out | apply bA_ | apply bN_ | apply bD_) | exact HB.out))); (case aF => exact (fun _ _ => trivial)); (case aO => exact (by (with_reducible repeat (first | apply kA_ | apply kN_ | apply kD_)); exact HO_11.out)); (case aS => exact (below_size (by repeat (first | (with_reducible first | exact HB.out | apply bA_ | apply bN_ | apply bD_) | exact HB.out)))); (case aL => have h1 := HLT.out; omega); intro v102 w7 ho hb hg hat; have n1_ := aM_ (blk_grown (g := gN) (o := .cells #[.int .i64 v0, .int .i64 (wrap64 (-v1)), .int .i64 v2, .int .i64 (wrap64 (-v3))] 3 (0, 0)) (by (with_reducible repeat (first | refine blk_drewN ?_ _ | refine blk_drew ?_ | refine blk_alloc ?_ _)); exact BKN.out) hg (Kd.R_ne HO_11.out BKN.out (by decide))); have n2_ := aM_ (hb); have n3_ := aM_ (ho); clear BKN; clear HB; clear HO_11; have BKN := n1_; have HB := n2_; have HO_11 := n3_; clear n1_ n2_ n3_; clear ho hb hg hat)
    go_roundg (gk - 1)
    case measure => have := HK1.out; have := HIX.out; omega
    case rel => exact ⟨wrap64 (x + 1), ix + 1, tx ++ [45], (by first | rfl | (simp; done) | (rw [HW.out]; first | rfl | (simp; done))), ⟨HW.out⟩, ⟨by have := HK1.out; have := HIX.out; omega⟩, ⟨by rw [HST.out, HT.out, HQ.out]⟩, ⟨BKN.out⟩, ⟨HO_11.out⟩, ⟨HB.out⟩⟩
  ·have c5b0 : decide (x < 4) = false := decide_eq_false c5
   have hE : ix = 4 := by have := HK1.out; have := HX.out; omega
   have htx : tx = [v0, wrap64 (-v1), v2, wrap64 (-v3)].map circI := by rw [HT.out, hE]; rfl
   have hcv : ∀ w' : World, Kd.R (Kd.int .u8) 5 w' w.heap.size (fun _ => True) u11 tx → (convert 82 9 u11).run Try.prog w' = .ok (.string (strOfNums tx)) w' := fun w' h => own_string (P := Try.prog) Try.underlying82 Try.underlying5 Try.underlying9 (Kd.own_of_R h)
   have hcv1 := hcv _ HO_11.out
   obtain ⟨Ao, co, eo⟩ := Kd.R_slice HO_11.out
   subst eo
   have hl4 : tx.length = 4 := by rw [htx]; rfl
   obtain ⟨ad, e0, hx0⟩ := Kd.at_int (Kd.R_reads' HO_11.out).2.2 0 (Int.le_refl 0) (by rw [hl4]; decide)
   cases e0
   have q1 : ((0 : Int) < (tx.length : Int)) = True := eq_true (by rw [hl4]; decide)
   have q2 : (0 < tx.length) = True := eq_true (by rw [hl4]; decide)
   have hop : impl_opposite.f (strOfNums tx) = some (oppText (strOfNums tx)) := by
    unfold impl_opposite.f
    rw [if_pos (by rw [htx]; simp [strOfNums, ByteArray.size])]
   have HOP := aM_ hop
   have HTX := aM_ htx
   have hrd : rd tx 0 = circI v0 := by rw [htx]; rfl
   rw [hrd, show ad.add (Int.toNat 0) = ad by simp [Addr.add]] at hx0
   clear c5 hE htx hl4 hcv hop hrd HT HK1 HX
   by_cases cv : v0 > 0
   ·rw [show circI v0 = 43 by unfold circI; rw [if_pos cv]] at hx0
    have HQ := aM_ (show R = strOfNums tx by rw [← HRES.out, if_pos cv, HTX.out])
    clear cv
    go_wp2
    first | go_ret | go_ret2 | go_end0
    exact ⟨by rw [HQ.out]; rfl, HB.out⟩
   ·rw [show circI v0 = 45 by unfold circI; rw [if_neg cv]] at hx0
    have HQ := aM_ (show R = oppText (strOfNums tx) by rw [← HRES.out, if_neg cv, HTX.out])
    clear cv
    go_wp2_with (go_at_call 73; refine (impl_opposite.calls (strOfNums tx) _ _ HOP.out).mono ?_; rintro e w9 ⟨rfl, hb9⟩)
    first | go_ret | go_ret2 | go_end0
    exact ⟨by rw [HQ.out]; rfl, below_step HB.out hb9⟩
end Go.Proofs.Yteaagaekdkolnaa.P

namespace Go.Proofs.Yteaagaekdkolnaa.P
open Go.RowKit Go.Proofs.YteaagaekdkolnaaW.PrintWords Go.Proofs.YteaagaekdkolnaaW.PrintLast Go.Proofs.YteaagaekdkolnaaW.PrintMore
attribute [local go_sem] max2_int min2_int max_two min_two max_three min_three max_four min_four   -- for this text's walks alone
set_option linter.unusedVariables false
set_option linter.unusedSimpArgs false
/-! ### impl_chi_split: function 70 -/
def impl_chi_split.l0 : Nat → ByteArray → Int → Int → List Int → Int → Int → Int → (Nat → Int) → Option (Int × Int × Int × (Nat → Int))
 | 0, _, _, _, _, _, _, _, _ => none
 | k + 1, x12, x13, x14, x27, x28, x29, x1000, x1001 => if x29 < x28 then (if 0 ≤ x29 then (if x29 < (x27.length : Int) then (if x29 < (x12.size : Int) then (if (bt x12 x29) = 43 then (if 0 ≤ (rd x27 x29) then (impl_chi_split.l0 k x12 (Go.bits .or .i64 x13 (shl .i64 1 (rd x27 x29))) x14 x27 x28 (wrap64 (x29 + 1)) x1000 x1001) else (none)) else (if 0 ≤ (rd x27 x29) then (impl_chi_split.l0 k x12 x13 (Go.bits .or .i64 x14 (shl .i64 1 (rd x27 x29))) x27 x28 (wrap64 (x29 + 1)) x1000 x1001) else (none))) else (none)) else (none)) else (none)) else (some (x13, x14, x1000, x1001))
def impl_chi_split.f (k : Nat) (s0_0 : Int) (s0_1 : (Nat → Int)) (a1 : Int) (a2 : Int) (a3 : Int) (a4 : Int) : Option (Int × Int × Int × (Nat → Int)) := (impl_chi_circuit.f s0_0 s0_1 a1 a2 a3 a4).bind fun bt101 => ((some (([a1, a2, a3, a4] : List Int) : List Int)).bind fun y104 => (impl_chi_split.l0 k bt101.1 0 0 y104 (y104.length : Int) 0 bt101.2.1 bt101.2.2))
theorem impl_chi_split.mono_l : ∀ k, (∀ y0 y1 y2 y3 y4 y5 y6 y7, LeO (impl_chi_split.l0 k y0 y1 y2 y3 y4 y5 y6 y7) (impl_chi_split.l0 (k + 1) y0 y1 y2 y3 y4 y5 y6 y7))
 | 0 => fun _ _ _ _ _ _ _ _ r h => by simp [impl_chi_split.l0] at h
 | k + 1 => by
  have ih0 := impl_chi_split.mono_l k
  (intros; unfold impl_chi_split.l0; repeat' (with_reducible first | exact ih0 _ _ _ _ _ _ _ _ | exact LeO.refl _ | exact LeO.none _ | refine LeO.ite ?_ ?_ | refine LeO.bind ?_ (fun _ => ?_)))
theorem impl_chi_split.mono : ∀ a0 a1 a2 a3 a4 a5 k, LeO (impl_chi_split.f k a0 a1 a2 a3 a4 a5) (impl_chi_split.f (k + 1) a0 a1 a2 a3 a4 a5) := by
 intro a0 a1 a2 a3 a4 a5 k
 have ih0 := impl_chi_split.mono_l k
 unfold impl_chi_split.f
 repeat' first
   | (with_reducible exact ih0 _ _ _ _ _ _ _ _)
   | (with_reducible exact LeO.refl _)
   | (with_reducible exact LeO.none _)
   | (with_reducible refine LeO.ite ?_ ?_)
   | (with_reducible refine LeO.bind ?_ (fun _ => ?_))
set_option maxHeartbeats 8000000 in
set_option maxRecDepth 100000 in
theorem impl_chi_split.calls (k : Nat) (g : Nat) (s0_0 : Int) (s0_1 : (Nat → Int)) (a1 : Int) (a2 : Int) (a3 : Int) (a4 : Int) (r1 : Int) (r2 : Int) (r3 : Int) (r4 : (Nat → Int)) (w0 w : World) (hI : IsS74 w0 w g s0_0 s0_1) (hB : Below w0.heap.size w0 w) (h : impl_chi_split.f k s0_0 s0_1 a1 a2 a3 a4 = some (r1, r2, r3, r4)) :
  Calls Try.prog 70 #[.pointer (some ⟨g, 0, none⟩), .int .i64 a1, .int .i64 a2, .int .i64 a3, .int .i64 a4] w fun e w' => e = .returned (.tuple #[.int .i64 r1, .int .i64 r2]) ∧ IsS74 w0 w' g r3 r4 ∧ Below w0.heap.size w0 w' ∧ KeepBut w w' g none := by
 have HI0 := aM_ hI
 have HK := aM_ (KeepBut.refl w g none)
 have HL := aM_ hB.size
 clear hI
 have HW0 := aM_ hB.size
 have HB := aM_ hB
 clear hB
 have H : ((impl_chi_circuit.f s0_0 s0_1 a1 a2 a3 a4).bind fun bt101 => ((some (([a1, a2, a3, a4] : List Int) : List Int)).bind fun y104 => (impl_chi_split.l0 k bt101.1 0 0 y104 (y104.length : Int) 0 bt101.2.1 bt101.2.2))) = some (r1, r2, r3, r4) := h
 clear h
 replace H := oB_ H
 obtain ⟨⟨t101, t102, t103⟩, A60, H⟩ := H
 replace H : ((some (([a1, a2, a3, a4] : List Int) : List Int)).bind fun y104 => (impl_chi_split.l0 k t101 0 0 y104 (y104.length : Int) 0 t102 t103)) = some (r1, r2, r3, r4) := H
 have A6 := aM_ A60
 clear A60
 obtain ⟨y104, hy104⟩ : ∃ y_ : List Int, y_ = (([a1, a2, a3, a4] : List Int)) := ⟨_, rfl⟩
 replace H : (impl_chi_split.l0 k t101 0 0 y104 (y104.length : Int) 0 t102 t103) = some (r1, r2, r3, r4) := by first | (rw [hy104]; with_reducible exact H) | (have H2_ := (Option.bind_some _ _).symm.trans H; rw [hy104]; with_reducible exact H2_) | (have H2_ := (Option.bind_some _ _).symm.trans H; with_reducible exact H2_) | with_reducible exact H | (rw [hy104]; exact H) | exact H
 have Ny104 := aM_ hy104
 clear hy104
 have H' := aM_ H
 clear H
 go_enter Try.func70, Try.ntmps70
 go_wp2_with (first | ((with_reducible refine gate_callee (f := 72) rfl ?_); refine goesM_ (some 22) Try.func72 #[.pointer (some ⟨g, 0, none⟩), .int .i64 a1, .int .i64 a2, .int .i64 a3, .int .i64 a4] ?_; (with_reducible refine (impl_chi_circuit.calls g s0_0 s0_1 a1 a2 a3 a4 t101 t102 t103 w0 _ ?side1 ?side2 A6.out).mono ?_); (case side1 => repeat (first | (with_reducible first | exact HI0.out | apply IsS74.alloc | apply IsS74.drewN | apply IsS74.drew | apply IsS74.set_0 | apply IsS74.set_1) | exact HI0.out)); (case side2 => repeat (first | (with_reducible first | exact HB.out | apply bA_ | apply bN_ | apply bD_ | refine below_set ?_ (IsS74.ge HI0.out)) | exact HB.out)); rintro e w7 ⟨rfl, hi, hb, hk⟩; refine ⟨_, rfl, ?_⟩; replace HK := aM_ (KeepBut.trans (kp_ HK) hk (.inl rfl)); replace HB := aM_ (hb); replace HI0 := aM_ (hi); (try clear hb); (try clear hk); (try clear hi)) | ((with_reducible refine gate_dst (N := 27) rfl ?_); refine Kd.R_lit (Kd.int .i64) _ 3 ?hg (N := 27) ?hd (xs := ([a1, a2, a3, a4] : List Int)) (inner := [.int .i64 a1, .int .i64 a2, .int .i64 a3, .int .i64 a4]) (ok := fun _ => True) (okp := fun _ => True) ?hr ?hp (fun _ hk => hk) trivial (Below.refl _ _) (Nat.le_refl _) (by simp) ?_; (case hd => rfl); (case hg => rfl); (case hr => first | (go_simp; done) | (go_simp; rfl)); (case hp => exact (Reps.one (show Kd.M (Kd.int .i64) _ _ _ a1 [.int .i64 a1] from rfl) (Reps.one (show Kd.M (Kd.int .i64) _ _ _ a2 [.int .i64 a2] from rfl) (Reps.one (show Kd.M (Kd.int .i64) _ _ _ a3 [.int .i64 a3] from rfl) (Reps.one (show Kd.M (Kd.int .i64) _ _ _ a4 [.int .i64 a4] from rfl) (Reps.none _ _)))))); intro v105 w8 ho9 hb hg_ hnew_; clear hg_ hnew_; (first | rw [← Ny104.out] at ho9 | (simp only [Int.reduceToNat] at ho9; rw [← Ny104.out] at ho9)); have HO106 := aM_ (Kd.R_lower ho9 (keep_size (w := w) (g := g) (row := none) (kp_ HK))); replace HK := aM_ (KeepBut.trans (kp_ HK) (KeepBut.of_below hb g none) (.inl rfl)); replace HB := aM_ (below_step (bI_ HB (IsS74.ge HI0.out)) hb); replace HI0 := aM_ (IsS74.below (by repeat (first | (with_reducible first | exact HI0.out | apply IsS74.alloc | apply IsS74.drewN | apply IsS74.drew | apply IsS74.set_0 | apply IsS74.set_1) | exact HI0.out)) hb); clear hb ho9; obtain ⟨Ao10, co10, eo10⟩ := Kd.R_slice HO106.out; subst eo10))
 go_loopg [13, 14, 29] k (fun kq v13 v14 v29 w' => ∃ (x13_1 : Int) (x14_1 : Int) (x29_1 : Int), v13 = .int .i64 x13_1 ∧ v14 = .int .i64 x14_1 ∧ v29 = .int .i64 x29_1 ∧ Aside0 (impl_chi_split.l0 kq t101 x13_1 x14_1 y104 (y104.length : Int) x29_1 t102 t103 = some (r1, r2, r3, r4)) ∧ Aside0 (kq ≤ k) ∧ Aside0 (Kd.R (Kd.int .i64) 3 w' w.heap.size (fun _ => True) (.slice Ao10 y104.length co10) y104) ∧ Aside0 (IsS74 w0 w' g t102 t103) ∧ Aside0 (KeepBut w w' g none) ∧ Aside0 (Below w0.heap.size w0 w'))
 case atStart => exact ⟨(0), (0), (0), veq_, veq_, veq_, H', ⟨Nat.le_refl _⟩, ⟨kr_ HO106⟩, ⟨by repeat (first | (with_reducible first | exact HI0.out | apply IsS74.alloc | apply IsS74.drewN | apply IsS74.drew | apply IsS74.set_0 | apply IsS74.set_1) | exact HI0.out)⟩, ⟨kp_ HK⟩, ⟨bI_ HB (IsS74.ge HI0.out)⟩⟩
 case round =>
  clear H'
  obtain ⟨x13_1, x14_1, x29_1, rfl, rfl, rfl, HA, HK1, HO_27, HI0, HK, HB⟩ := hrel
  cases gk with
  | zero => exact absurd HA.out (by simp [impl_chi_split.l0])
  | succ k1 =>
   have H := HA.out
   clear HA
   simp only [impl_chi_split.l0] at H
   rcases ifd_ H with ⟨c11b0, H⟩ | ⟨c11b0, H⟩
   ·obtain ⟨c12b0, H⟩ := ifn_ H
    obtain ⟨c13b0, H⟩ := ifn_ H
    obtain ⟨c14b0, H⟩ := ifn_ H
    rcases ifc_ H with ⟨c16, H⟩ | ⟨c16, H⟩
    ·have c16b0 : ((bt t101 x29_1) == 43) = true := beq_iff_eq.mpr c16
     have c16b1 : ((bt t101 x29_1) != 43) = false := bne_eq_false_iff_eq.mpr c16
     clear c16
     obtain ⟨c17, H⟩ := ifp_ H
     have c17b0 := eq_true c17
     have c17b1 := decide_eq_true c17
     clear c17
     obtain ⟨ji18, hji18⟩ : ∃ j_ : Int, (shl .i64 1 (rd y104 x29_1)) = j_ := ⟨_, rfl⟩
     replace H : (impl_chi_split.l0 k1 t101 (Go.bits .or .i64 x13_1 (ji18)) x14_1 y104 (y104.length : Int) (wrap64 (x29_1 + 1)) t102 t103) = some (r1, r2, r3, r4) := by first | (rw [hji18] at H; exact H) | (simp only [hji18] at H ⊢; exact H)
     have hji18_ : (IntKind.i64.wrap (1 * 2 ^ min (rd y104 x29_1).toNat 64)) = ji18 := hji18
     have hji18z : (rd y104 x29_1) ≤ 64 → (IntKind.i64.wrap (1 * 2 ^ (rd y104 x29_1).toNat)) = ji18 := shl_small hji18
     have hji18u : (IntKind.i64.wrap (2 ^ min (rd y104 x29_1).toNat 64)) = ji18 := by have h_ := hji18_; rw [Int.one_mul] at h_; exact h_
     have hji18v : (rd y104 x29_1) ≤ 64 → (IntKind.i64.wrap (2 ^ (rd y104 x29_1).toNat)) = ji18 := fun hle_ => by have h_ := hji18z hle_; rw [Int.one_mul] at h_; exact h_
     have hji18y : (wrap64 (1 * 2 ^ min (rd y104 x29_1).toNat 64)) = ji18 := (i64_w _).symm.trans hji18_
     have hji18x : (rd y104 x29_1) ≤ 64 → (wrap64 (1 * 2 ^ (rd y104 x29_1).toNat)) = ji18 := fun h_ => (i64_w _).symm.trans (hji18z h_)
     have H' := aM_ H
     clear H
     obtain ⟨p107, q107, ad107, e107, hx107_0⟩ := atW_ (Kd.at_int (Kd.R_reads' HO_27.out).2.2 x29_1)
     cases e107
     have p15 : 0 ≤ (x29_1 : Int) := ode_
     have q15 : x29_1 < (t101.size : Int) := ode_
     have hx15 := bt_at t101 x29_1
     replace p15 := eq_true p15
     replace q15 := eq_true q15
     go_wp2
     go_roundg k1
     case measure => have := HK1.out; omega
     case rel => exact ⟨(Go.bits .or .i64 x13_1 (ji18)), (x14_1), (wrap64 (x29_1 + 1)), (by first | rfl | (simp; done) | (simp only [← hji18] <;> (first | rfl | simp)) | (simp [*]; done)), veq_, veq_, H', ⟨by have := HK1.out; omega⟩, ⟨kr_ HO_27⟩, ⟨by repeat (first | (with_reducible first | exact HI0.out | apply IsS74.alloc | apply IsS74.drewN | apply IsS74.drew | apply IsS74.set_0 | apply IsS74.set_1) | exact HI0.out)⟩, ⟨kp_ HK⟩, ⟨bI_ HB (IsS74.ge HI0.out)⟩⟩
    ·have c16b0 : ((bt t101 x29_1) == 43) = false := beq_eq_false_iff_ne.mpr c16
     have c16b1 : ((bt t101 x29_1) != 43) = true := bne_iff_ne.mpr c16
     obtain ⟨c19, H⟩ := ifp_ H
     have c19b0 := eq_true c19
     have c19b1 := decide_eq_true c19
     clear c19
     obtain ⟨ji20, hji20⟩ : ∃ j_ : Int, (shl .i64 1 (rd y104 x29_1)) = j_ := ⟨_, rfl⟩
     replace H : (impl_chi_split.l0 k1 t101 x13_1 (Go.bits .or .i64 x14_1 (ji20)) y104 (y104.length : Int) (wrap64 (x29_1 + 1)) t102 t103) = some (r1, r2, r3, r4) := by first | (rw [hji20] at H; exact H) | (simp only [hji20] at H ⊢; exact H)
     have hji20_ : (IntKind.i64.wrap (1 * 2 ^ min (rd y104 x29_1).toNat 64)) = ji20 := hji20
     have hji20z : (rd y104 x29_1) ≤ 64 → (IntKind.i64.wrap (1 * 2 ^ (rd y104 x29_1).toNat)) = ji20 := shl_small hji20
     have hji20u : (IntKind.i64.wrap (2 ^ min (rd y104 x29_1).toNat 64)) = ji20 := by have h_ := hji20_; rw [Int.one_mul] at h_; exact h_
     have hji20v : (rd y104 x29_1) ≤ 64 → (IntKind.i64.wrap (2 ^ (rd y104 x29_1).toNat)) = ji20 := fun hle_ => by have h_ := hji20z hle_; rw [Int.one_mul] at h_; exact h_
     have hji20y : (wrap64 (1 * 2 ^ min (rd y104 x29_1).toNat 64)) = ji20 := (i64_w _).symm.trans hji20_
     have hji20x : (rd y104 x29_1) ≤ 64 → (wrap64 (1 * 2 ^ (rd y104 x29_1).toNat)) = ji20 := fun h_ => (i64_w _).symm.trans (hji20z h_)
     have H' := aM_ H
     clear H
     obtain ⟨p107, q107, ad107, e107, hx107_0⟩ := atW_ (Kd.at_int (Kd.R_reads' HO_27.out).2.2 x29_1)
     cases e107
     have p15 : 0 ≤ (x29_1 : Int) := ode_
     have q15 : x29_1 < (t101.size : Int) := ode_
     have hx15 := bt_at t101 x29_1
     replace p15 := eq_true p15
     replace q15 := eq_true q15
     go_wp2
     go_roundg k1
     case measure => have := HK1.out; omega
     case rel => exact ⟨(x13_1), (Go.bits .or .i64 x14_1 (ji20)), (wrap64 (x29_1 + 1)), veq_, (by first | rfl | (simp; done) | (simp only [← hji20] <;> (first | rfl | simp)) | (simp [*]; done)), veq_, H', ⟨by have := HK1.out; omega⟩, ⟨kr_ HO_27⟩, ⟨by repeat (first | (with_reducible first | exact HI0.out | apply IsS74.alloc | apply IsS74.drewN | apply IsS74.drew | apply IsS74.set_0 | apply IsS74.set_1) | exact HI0.out)⟩, ⟨kp_ HK⟩, ⟨bI_ HB (IsS74.ge HI0.out)⟩⟩
   ·simp only [Option.some.injEq, Prod.mk.injEq] at H
    obtain ⟨rfl, rfl, rfl, rfl⟩ := H
    go_wp2
    go_ret2
    exact ⟨verr_, by repeat (first | (with_reducible first | exact HI0.out | apply IsS74.alloc | apply IsS74.drewN | apply IsS74.drew | apply IsS74.set_0 | apply IsS74.set_1) | exact HI0.out), bI_ HB (IsS74.ge HI0.out), kp_ HK⟩
end Go.Proofs.Yteaagaekdkolnaa.P

namespace Go.Proofs.Yteaagaekdkolnaa.P
open Go.RowKit Go.Proofs.YteaagaekdkolnaaW.PrintWords Go.Proofs.YteaagaekdkolnaaW.PrintLast Go.Proofs.YteaagaekdkolnaaW.PrintMore
attribute [local go_sem] max2_int min2_int max_two min_two max_three min_three max_four min_four   -- for this text's walks alone
set_option linter.unusedVariables false
set_option linter.unusedSimpArgs false
/-! ### impl_single: function 71 -/
def impl_single.l0 : Nat → Int → Int → Option (Int)
 | 0, _, _ => none
 | k + 1, x0, x3 => if x3 < 7 then (if 0 ≤ x3 then (if x0 = (shl .i64 1 x3) then (some x3) else (impl_single.l0 k x0 (wrap64 (x3 + 1)))) else (none)) else (some (-1))
def impl_single.f (k : Nat) (a0 : Int) : Option (Int) := impl_single.l0 k a0 0
theorem impl_single.mono_l : ∀ k, (∀ y0 y1, LeO (impl_single.l0 k y0 y1) (impl_single.l0 (k + 1) y0 y1))
 | 0 => fun _ _ r h => by simp [impl_single.l0] at h
 | k + 1 => by
  have ih0 := impl_single.mono_l k
  (intros; unfold impl_single.l0; repeat' (with_reducible first | exact ih0 _ _ | exact LeO.refl _ | exact LeO.none _ | refine LeO.ite ?_ ?_ | refine LeO.bind ?_ (fun _ => ?_)))
theorem impl_single.mono : ∀ a0 k, LeO (impl_single.f k a0) (impl_single.f (k + 1) a0) := by
 intro a0 k
 have ih0 := impl_single.mono_l k
 unfold impl_single.f
 repeat' first
   | (with_reducible exact ih0 _ _)
   | (with_reducible exact LeO.refl _)
   | (with_reducible exact LeO.none _)
   | (with_reducible refine LeO.ite ?_ ?_)
   | (with_reducible refine LeO.bind ?_ (fun _ => ?_))
set_option maxHeartbeats 8000000 in
set_option maxRecDepth 100000 in
theorem impl_single.calls (k : Nat) (a0 : Int) (r : Int) (w : World) (h : impl_single.f k a0 = some r) :
  Calls Try.prog 71 #[.int .i64 a0] w fun e w' => e = .returned (.int .i64 r) ∧ Drawn0 w w' := by
 have H : (impl_single.l0 k a0 0) = some r := h
 clear h
 have H' := aM_ H
 clear H
 go_enter Try.func71, Try.ntmps71
 go_wp2
 go_loopg [3] k (fun kq v3 w' => ∃ (x3_1 : Int), v3 = .int .i64 x3_1 ∧ Aside0 (impl_single.l0 kq a0 x3_1 = some r) ∧ Aside0 (kq ≤ k) ∧ Drawn0 w w')
 case atStart => exact ⟨(0), veq_, H', ⟨Nat.le_refl _⟩, by repeat (first | exact Drawn0.refl _ | apply Drawn0.step)⟩
 case round =>
  clear H'
  obtain ⟨x3_1, rfl, HA, HK1, ⟨m1, rfl⟩⟩ := hrel
  cases gk with
  | zero => exact absurd HA.out (by simp [impl_single.l0])
  | succ k1 =>
   have H := HA.out
   clear HA
   simp only [impl_single.l0] at H
   rcases ifd_ H with ⟨c2b0, H⟩ | ⟨c2b0, H⟩
   ·obtain ⟨c3, H⟩ := ifp_ H
    have c3b0 := eq_true c3
    have c3b1 := decide_eq_true c3
    clear c3
    obtain ⟨ji4, hji4⟩ : ∃ j_ : Int, (shl .i64 1 x3_1) = j_ := ⟨_, rfl⟩
    replace H : (if a0 = (ji4) then (some x3_1) else (impl_single.l0 k1 a0 (wrap64 (x3_1 + 1)))) = some r := by first | (rw [hji4] at H; exact H) | (simp only [hji4] at H ⊢; exact H)
    have hji4_ : (IntKind.i64.wrap (1 * 2 ^ min x3_1.toNat 64)) = ji4 := hji4
    have hji4z : x3_1 ≤ 64 → (IntKind.i64.wrap (1 * 2 ^ x3_1.toNat)) = ji4 := shl_small hji4
    have hji4u : (IntKind.i64.wrap (2 ^ min x3_1.toNat 64)) = ji4 := by have h_ := hji4_; rw [Int.one_mul] at h_; exact h_
    have hji4v : x3_1 ≤ 64 → (IntKind.i64.wrap (2 ^ x3_1.toNat)) = ji4 := fun hle_ => by have h_ := hji4z hle_; rw [Int.one_mul] at h_; exact h_
    have hji4y : (wrap64 (1 * 2 ^ min x3_1.toNat 64)) = ji4 := (i64_w _).symm.trans hji4_
    have hji4x : x3_1 ≤ 64 → (wrap64 (1 * 2 ^ x3_1.toNat)) = ji4 := fun h_ => (i64_w _).symm.trans (hji4z h_)
    rcases ifc_ H with ⟨c5, H⟩ | ⟨c5, H⟩
    ·have c5b0 : (a0 == (ji4)) = true := beq_iff_eq.mpr c5
     have c5b1 : (a0 != (ji4)) = false := bne_eq_false_iff_eq.mpr c5
     clear c5
     obtain rfl := Option.some.inj H
     go_wp2
     go_ret
     exact ⟨by first | rfl | (simp; done) | (simp only [← hji4] <;> (first | rfl | simp)) | (simp [*]; done), by repeat (first | exact Drawn0.refl _ | apply Drawn0.step)⟩
    ·have c5b0 : (a0 == (ji4)) = false := beq_eq_false_iff_ne.mpr c5
     have c5b1 : (a0 != (ji4)) = true := bne_iff_ne.mpr c5
     have H' := aM_ H
     clear H
     go_wp2
     go_roundg k1
     case measure => have := HK1.out; omega
     case rel => exact ⟨(wrap64 (x3_1 + 1)), veq_, H', ⟨by have := HK1.out; omega⟩, by repeat (first | exact Drawn0.refl _ | apply Drawn0.step)⟩
   ·obtain rfl := Option.some.inj H
    go_wp2
    go_ret
    exact ⟨veq_, by repeat (first | exact Drawn0.refl _ | apply Drawn0.step)⟩
end Go.Proofs.Yteaagaekdkolnaa.P

namespace Go.Proofs.Yteaagaekdkolnaa.P
open Go.RowKit Go.Proofs.YteaagaekdkolnaaW.PrintWords Go.Proofs.YteaagaekdkolnaaW.PrintLast Go.Proofs.YteaagaekdkolnaaW.PrintMore
attribute [local go_sem] max2_int min2_int max_two min_two max_three min_three max_four min_four   -- for this text's walks alone
set_option linter.unusedVariables false
set_option linter.unusedSimpArgs false
/-! ### impl_chi_inner: function 69 -/
def impl_chi_inner.f (k : Nat) (s0_0 : Int) (s0_1 : (Nat → Int)) (a1 : Int) (a2 : Int) (a3 : Int) (a4 : Int) : Option (Int × Int × (Nat → Int)) := (impl_chi_split.f k s0_0 s0_1 a1 a2 a3 a4).bind fun bt101 => ((impl_single.f k bt101.1).bind fun t105 => ((impl_single.f k bt101.2.1).bind fun t106 => (some (mx t105 t106, bt101.2.2.1, bt101.2.2.2))))
theorem impl_chi_inner.mono : ∀ a0 a1 a2 a3 a4 a5 k, LeO (impl_chi_inner.f k a0 a1 a2 a3 a4 a5) (impl_chi_inner.f (k + 1) a0 a1 a2 a3 a4 a5) := by
 intro a0 a1 a2 a3 a4 a5 k
 unfold impl_chi_inner.f
 repeat' first
   | (with_reducible exact impl_chi_split.mono _ _ _ _ _ _ _)
   | (with_reducible exact impl_single.mono _ _)
   | (with_reducible exact LeO.refl _)
   | (with_reducible exact LeO.none _)
   | (with_reducible refine LeO.ite ?_ ?_)
   | (with_reducible refine LeO.bind ?_ (fun _ => ?_))
set_option maxHeartbeats 8000000 in
set_option maxRecDepth 100000 in
theorem impl_chi_inner.calls (k : Nat) (g : Nat) (s0_0 : Int) (s0_1 : (Nat → Int)) (a1 : Int) (a2 : Int) (a3 : Int) (a4 : Int) (r1 : Int) (r2 : Int) (r3 : (Nat → Int)) (w0 w : World) (hI : IsS74 w0 w g s0_0 s0_1) (hB : Below w0.heap.size w0 w) (h : impl_chi_inner.f k s0_0 s0_1 a1 a2 a3 a4 = some (r1, r2, r3)) :
  Calls Try.prog 69 #[.pointer (some ⟨g, 0, none⟩), .int .i64 a1, .int .i64 a2, .int .i64 a3, .int .i64 a4] w fun e w' => e = .returned (.int .i64 r1) ∧ IsS74 w0 w' g r2 r3 ∧ Below w0.heap.size w0 w' ∧ KeepBut w w' g none := by
 have HI0 := aM_ hI
 have HK := aM_ (KeepBut.refl w g none)
 have HL := aM_ hB.size
 clear hI
 have HW0 := aM_ hB.size
 have HB := aM_ hB
 clear hB
 have H : ((impl_chi_split.f k s0_0 s0_1 a1 a2 a3 a4).bind fun bt101 => ((impl_single.f k bt101.1).bind fun t105 => ((impl_single.f k bt101.2.1).bind fun t106 => (some (mx t105 t106, bt101.2.2.1, bt101.2.2.2))))) = some (r1, r2, r3) := h
 clear h
 replace H := oB_ H
 obtain ⟨⟨t101, t102, t103, t104⟩, A60, H⟩ := H
 replace H : ((impl_single.f k t101).bind fun t105 => ((impl_single.f k t102).bind fun t106 => (some (mx t105 t106, t103, t104)))) = some (r1, r2, r3) := H
 have A6 := aM_ A60
 clear A60
 replace H := oB_ H
 obtain ⟨t105, A70, H⟩ := H
 replace H : ((impl_single.f k t102).bind fun t106 => (some (mx t105 t106, t103, t104))) = some (r1, r2, r3) := H
 have A7 := aM_ A70
 clear A70
 replace H := oB_ H
 obtain ⟨t106, A80, H⟩ := H
 replace H : (some (mx t105 t106, t103, t104)) = some (r1, r2, r3) := H
 have A8 := aM_ A80
 clear A80
 obtain ⟨ji9, hji9⟩ : ∃ j_ : Int, (mx t105 t106) = j_ := ⟨_, rfl⟩
 replace H : (some (ji9, t103, t104)) = some (r1, r2, r3) := by first | (rw [hji9] at H; exact H) | (simp only [hji9] at H ⊢; exact H)
 (try rw [hji9] at A6)
 (try rw [hji9] at A7)
 (try rw [hji9] at A8)
 have hji9_ : (if t105 < t106 then t106 else t105) = ji9 := hji9
 simp only [Option.some.injEq, Prod.mk.injEq] at H
 obtain ⟨rfl, rfl, rfl⟩ := H
 go_enter Try.func69, Try.ntmps69
 go_wp2_with (first | ((with_reducible refine gate_callee (f := 70) rfl ?_); refine goesM_ (some 19) Try.func70 #[.pointer (some ⟨g, 0, none⟩), .int .i64 a1, .int .i64 a2, .int .i64 a3, .int .i64 a4] ?_; (with_reducible refine (impl_chi_split.calls k g s0_0 s0_1 a1 a2 a3 a4 t101 t102 t103 t104 w0 _ ?side1 ?side2 A6.out).mono ?_); (case side1 => repeat (first | (with_reducible first | exact HI0.out | apply IsS74.alloc | apply IsS74.drewN | apply IsS74.drew | apply IsS74.set_0 | apply IsS74.set_1) | exact HI0.out)); (case side2 => repeat (first | (with_reducible first | exact HB.out | apply bA_ | apply bN_ | apply bD_ | refine below_set ?_ (IsS74.ge HI0.out)) | exact HB.out)); rintro e w10 ⟨rfl, hi, hb, hk⟩; refine ⟨_, rfl, ?_⟩; replace HK := aM_ (KeepBut.trans (kp_ HK) hk (.inl rfl)); replace HB := aM_ (hb); replace HI0 := aM_ (hi); (try clear hb); (try clear hk); (try clear hi)) | ((with_reducible refine gate_callee (f := 71) rfl ?_); refine goesM_ (some 23) Try.func71 #[.int .i64 t101] ?_; (with_reducible refine (impl_single.calls k t101 t105 _ A7.out).mono ?_); rintro e w' ⟨rfl, ⟨nd, rfl⟩⟩; refine ⟨_, rfl, ?_⟩) | ((with_reducible refine gate_callee (f := 71) rfl ?_); refine goesM_ (some 25) Try.func71 #[.int .i64 t102] ?_; (with_reducible refine (impl_single.calls k t102 t106 _ A8.out).mono ?_); rintro e w' ⟨rfl, ⟨nd, rfl⟩⟩; refine ⟨_, rfl, ?_⟩))
 go_ret
 exact ⟨by first | rfl | (simp [errW_none, errW_some] <;> rfl) | (simp only [← hji9]; first | rfl | (simp [errW_none, errW_some] <;> rfl)) | (simp [*, errW_none, errW_some] <;> rfl), by repeat (first | (with_reducible first | exact HI0.out | apply IsS74.alloc | apply IsS74.drewN | apply IsS74.drew | apply IsS74.set_0 | apply IsS74.set_1) | exact HI0.out), bI_ HB (IsS74.ge HI0.out), kp_ HK⟩
end Go.Proofs.Yteaagaekdkolnaa.P

namespace Go.Proofs.Yteaagaekdkolnaa.P
open Go.RowKit Go.Proofs.YteaagaekdkolnaaW.PrintWords Go.Proofs.YteaagaekdkolnaaW.PrintLast Go.Proofs.YteaagaekdkolnaaW.PrintMore
attribute [local go_sem] max2_int min2_int max_two min_two max_three min_three max_four min_four   -- for this text's walks alone
set_option linter.unusedVariables false
set_option linter.unusedSimpArgs false
/-! ### impl_chi_isInside: function 68 -/
def impl_chi_isInside.f (k : Nat) (s0_0 : Int) (s0_1 : (Nat → Int)) (a1 : Int) (a2 : Int) (a3 : Int) (a4 : Int) : Option (Bool × Int × (Nat → Int)) := (impl_chi_inner.f k s0_0 s0_1 a1 a2 a3 a4).bind fun bt101 => (some ((bt101.1 == a1), bt101.2.1, bt101.2.2))
theorem impl_chi_isInside.mono : ∀ a0 a1 a2 a3 a4 a5 k, LeO (impl_chi_isInside.f k a0 a1 a2 a3 a4 a5) (impl_chi_isInside.f (k + 1) a0 a1 a2 a3 a4 a5) := by
 intro a0 a1 a2 a3 a4 a5 k
 unfold impl_chi_isInside.f
 repeat' first
   | (with_reducible exact impl_chi_inner.mono _ _ _ _ _ _ _)
   | (with_reducible exact LeO.refl _)
   | (with_reducible exact LeO.none _)
   | (with_reducible refine LeO.ite ?_ ?_)
   | (with_reducible refine LeO.bind ?_ (fun _ => ?_))
set_option maxHeartbeats 8000000 in
set_option maxRecDepth 100000 in
theorem impl_chi_isInside.calls (k : Nat) (g : Nat) (s0_0 : Int) (s0_1 : (Nat → Int)) (a1 : Int) (a2 : Int) (a3 : Int) (a4 : Int) (r1 : Bool) (r2 : Int) (r3 : (Nat → Int)) (w0 w : World) (hI : IsS74 w0 w g s0_0 s0_1) (hB : Below w0.heap.size w0 w) (h : impl_chi_isInside.f k s0_0 s0_1 a1 a2 a3 a4 = some (r1, r2, r3)) :
  Calls Try.prog 68 #[.pointer (some ⟨g, 0, none⟩), .int .i64 a1, .int .i64 a2, .int .i64 a3, .int .i64 a4] w fun e w' => e = .returned (.bool r1) ∧ IsS74 w0 w' g r2 r3 ∧ Below w0.heap.size w0 w' ∧ KeepBut w w' g none := by
 have HI0 := aM_ hI
 have HK := aM_ (KeepBut.refl w g none)
 have HL := aM_ hB.size
 clear hI
 have HW0 := aM_ hB.size
 have HB := aM_ hB
 clear hB
 have H : ((impl_chi_inner.f k s0_0 s0_1 a1 a2 a3 a4).bind fun bt101 => (some ((bt101.1 == a1), bt101.2.1, bt101.2.2))) = some (r1, r2, r3) := h
 clear h
 replace H := oB_ H
 obtain ⟨⟨t101, t102, t103⟩, A60, H⟩ := H
 replace H : (some ((t101 == a1), t102, t103)) = some (r1, r2, r3) := H
 have A6 := aM_ A60
 clear A60
 simp only [Option.some.injEq, Prod.mk.injEq] at H
 obtain ⟨rfl, rfl, rfl⟩ := H
 go_enter Try.func68, Try.ntmps68
 go_wp2_with (first | ((with_reducible refine gate_callee (f := 69) rfl ?_); refine goesM_ (some 16) Try.func69 #[.pointer (some ⟨g, 0, none⟩), .int .i64 a1, .int .i64 a2, .int .i64 a3, .int .i64 a4] ?_; (with_reducible refine (impl_chi_inner.calls k g s0_0 s0_1 a1 a2 a3 a4 t101 t102 t103 w0 _ ?side1 ?side2 A6.out).mono ?_); (case side1 => repeat (first | (with_reducible first | exact HI0.out | apply IsS74.alloc | apply IsS74.drewN | apply IsS74.drew | apply IsS74.set_0 | apply IsS74.set_1) | exact HI0.out)); (case side2 => repeat (first | (with_reducible first | exact HB.out | apply bA_ | apply bN_ | apply bD_ | refine below_set ?_ (IsS74.ge HI0.out)) | exact HB.out)); rintro e w7 ⟨rfl, hi, hb, hk⟩; refine ⟨_, rfl, ?_⟩; replace HK := aM_ (KeepBut.trans (kp_ HK) hk (.inl rfl)); replace HB := aM_ (hb); replace HI0 := aM_ (hi); (try clear hb); (try clear hk); (try clear hi)))
 go_ret
 exact ⟨verr_, by repeat (first | (with_reducible first | exact HI0.out | apply IsS74.alloc | apply IsS74.drewN | apply IsS74.drew | apply IsS74.set_0 | apply IsS74.set_1) | exact HI0.out), bI_ HB (IsS74.ge HI0.out), kp_ HK⟩
end Go.Proofs.Yteaagaekdkolnaa.P

namespace Go.Proofs.Yteaagaekdkolnaa.P
open Go.RowKit Go.Proofs.YteaagaekdkolnaaW.PrintWords Go.Proofs.YteaagaekdkolnaaW.PrintLast Go.Proofs.YteaagaekdkolnaaW.PrintMore
attribute [local go_sem] max2_int min2_int max_two min_two max_three min_three max_four min_four   -- for this text's walks alone
set_option linter.unusedVariables false
set_option linter.unusedSimpArgs false
/-! ### impl_chi_inHull: function 63 -/
def impl_chi_inHull.l0 : Nat → Int → Int → List (S52) → Int → Int → Int → (Nat → Int) → Option (Bool × Int × (Nat → Int))
 | 0, _, _, _, _, _, _, _ => none
 | k + 1, x1, x2, x14, x15, x16, x1000, x1001 => if x16 < x15 then (if 0 ≤ x16 then (if x16 < (x14.length : Int) then (if 0 ≤ ((rd_T52 x14 x16).f0) then (if 0 ≤ ((rd_T52 x14 x16).f1) then (if 0 ≤ ((rd_T52 x14 x16).f2) then (if (Go.bits .and .i64 x1 (Go.bits .or .i64 (Go.bits .or .i64 (shl .i64 1 ((rd_T52 x14 x16).f0)) (shl .i64 1 ((rd_T52 x14 x16).f1))) (shl .i64 1 ((rd_T52 x14 x16).f2)))) = (Go.bits .or .i64 (Go.bits .or .i64 (shl .i64 1 ((rd_T52 x14 x16).f0)) (shl .i64 1 ((rd_T52 x14 x16).f1))) (shl .i64 1 ((rd_T52 x14 x16).f2))) then ((impl_chi_isInside.f k x1000 x1001 x2 ((rd_T52 x14 x16).f0) ((rd_T52 x14 x16).f1) ((rd_T52 x14 x16).f2)).bind fun bt106 => (if bt106.1 = true then (some (true, bt106.2.1, bt106.2.2)) else (impl_chi_inHull.l0 k x1 x2 x14 x15 (wrap64 (x16 + 1)) bt106.2.1 bt106.2.2))) else (impl_chi_inHull.l0 k x1 x2 x14 x15 (wrap64 (x16 + 1)) x1000 x1001)) else (none)) else (none)) else (none)) else (none)) else (none)) else (some (false, x1000, x1001))
def impl_chi_inHull.f (k : Nat) (s0_0 : Int) (s0_1 : (Nat → Int)) (a1 : Int) (a2 : Int) : Option (Bool × Int × (Nat → Int)) := (impl_triplesOf.f k s0_0).bind fun t101 => (impl_chi_inHull.l0 k a1 a2 t101 (t101.length : Int) 0 s0_0 s0_1)
set_option maxHeartbeats 8000000 in
set_option maxRecDepth 100000 in
theorem impl_chi_inHull.calls (k : Nat) (g : Nat) (s0_0 : Int) (s0_1 : (Nat → Int)) (a1 : Int) (a2 : Int) (r1 : Bool) (r2 : Int) (r3 : (Nat → Int)) (w0 w : World) (hI : IsS74 w0 w g s0_0 s0_1) (hB : Below w0.heap.size w0 w) (h : impl_chi_inHull.f k s0_0 s0_1 a1 a2 = some (r1, r2, r3)) :
  Calls Try.prog 63 #[.pointer (some ⟨g, 0, none⟩), .int .i64 a1, .int .i64 a2] w fun e w' => e = .returned (.bool r1) ∧ IsS74 w0 w' g r2 r3 ∧ Below w0.heap.size w0 w' ∧ KeepBut w w' g none := by
 have hu52 := Try.underlying52
 have HI0 := aM_ hI
 have HK := aM_ (KeepBut.refl w g none)
 have HL := aM_ hB.size
 clear hI
 have HW0 := aM_ hB.size
 have HB := aM_ hB
 clear hB
 have H : ((impl_triplesOf.f k s0_0).bind fun t101 => (impl_chi_inHull.l0 k a1 a2 t101 (t101.length : Int) 0 s0_0 s0_1)) = some (r1, r2, r3) := h
 clear h
 replace H := oB_ H
 obtain ⟨t101, A40, H⟩ := H
 replace H : (impl_chi_inHull.l0 k a1 a2 t101 (t101.length : Int) 0 s0_0 s0_1) = some (r1, r2, r3) := H
 have A4 := aM_ A40
 clear A40
 have H' := aM_ H
 clear H
 obtain ⟨HGz5, hgz5⟩ := HI0.out
 have hcz5_0 := cellS74_0 HGz5
 have hfz5_0 := blk_frozen HGz5 0
 have hfz5_1 := blk_frozen HGz5 1
 clear HGz5 hgz5
 go_enter Try.func63, Try.ntmps63
 go_wp2_with (first | (go_at_call 27; (with_reducible refine (impl_triplesOf.calls k s0_0 t101 _ A4.out).mono ?_); rintro e w6 ⟨v102, rfl, ho0, hb⟩; have HO103 := aM_ (Kd.R_lower ho0 (keep_size (w := w) (g := g) (row := none) (kp_ HK))); replace HK := aM_ (KeepBut.trans (kp_ HK) (KeepBut.of_below hb g none) (.inl rfl)); replace HB := aM_ (below_step (bI_ HB (IsS74.ge HI0.out)) hb); replace HI0 := aM_ (IsS74.below (by repeat (first | (with_reducible first | exact HI0.out | apply IsS74.alloc | apply IsS74.drewN | apply IsS74.drew | apply IsS74.set_0 | apply IsS74.set_1) | exact HI0.out)) hb); (try clear hb); (try clear hk); (try clear hi); (try clear ho0); obtain ⟨Ao7, co7, eo7⟩ := Kd.R_slice HO103.out; subst eo7))
 repeat (go_quiet (first | (go_at_call 27; (with_reducible refine (impl_triplesOf.calls k s0_0 t101 _ A4.out).mono ?_); rintro e w6 ⟨v102, rfl, ho0, hb⟩; have HO103 := aM_ (Kd.R_lower ho0 (keep_size (w := w) (g := g) (row := none) (kp_ HK))); replace HK := aM_ (KeepBut.trans (kp_ HK) (KeepBut.of_below hb g none) (.inl rfl)); replace HB := aM_ (below_step (bI_ HB (IsS74.ge HI0.out)) hb); replace HI0 := aM_ (IsS74.below (by repeat (first | (with_reducible first | exact HI0.out | apply IsS74.alloc | apply IsS74.drewN | apply IsS74.drew | apply IsS74.set_0 | apply IsS74.set_1) | exact HI0.out)) hb); (try clear hb); (try clear hk); (try clear hi); (try clear ho0); obtain ⟨Ao7, co7, eo7⟩ := Kd.R_slice HO103.out; subst eo7)); try go_wp2_with (first | (go_at_call 27; (with_reducible refine (impl_triplesOf.calls k s0_0 t101 _ A4.out).mono ?_); rintro e w6 ⟨v102, rfl, ho0, hb⟩; have HO103 := aM_ (Kd.R_lower ho0 (keep_size (w := w) (g := g) (row := none) (kp_ HK))); replace HK := aM_ (KeepBut.trans (kp_ HK) (KeepBut.of_below hb g none) (.inl rfl)); replace HB := aM_ (below_step (bI_ HB (IsS74.ge HI0.out)) hb); replace HI0 := aM_ (IsS74.below (by repeat (first | (with_reducible first | exact HI0.out | apply IsS74.alloc | apply IsS74.drewN | apply IsS74.drew | apply IsS74.set_0 | apply IsS74.set_1) | exact HI0.out)) hb); (try clear hb); (try clear hk); (try clear hi); (try clear ho0); obtain ⟨Ao7, co7, eo7⟩ := Kd.R_slice HO103.out; subst eo7)))
 go_loopg [16] k (fun kq v16 w' => ∃ (x16_1 : Int) (x1000_1 : Int) (x1001_1 : (Nat → Int)), v16 = .int .i64 x16_1 ∧ Aside0 (impl_chi_inHull.l0 kq a1 a2 t101 (t101.length : Int) x16_1 x1000_1 x1001_1 = some (r1, r2, r3)) ∧ Aside0 (kq ≤ k) ∧ Aside0 (Kd.R k52 52 w' w.heap.size (fun _ => True) (.slice Ao7 t101.length co7) t101) ∧ Aside0 (IsS74 w0 w' g x1000_1 x1001_1) ∧ Aside0 (KeepBut w w' g none) ∧ Aside0 (Below w0.heap.size w0 w'))
 case atStart => exact ⟨(0), (s0_0), (s0_1), veq_, H', ⟨Nat.le_refl _⟩, ⟨kr_ HO103⟩, ⟨by repeat (first | (with_reducible first | exact HI0.out | apply IsS74.alloc | apply IsS74.drewN | apply IsS74.drew | apply IsS74.set_0 | apply IsS74.set_1) | exact HI0.out)⟩, ⟨kp_ HK⟩, ⟨bI_ HB (IsS74.ge HI0.out)⟩⟩
 case round =>
  clear H'
  try clear hcz5_0
  try clear hfz5_0
  try clear hfz5_1
  obtain ⟨x16_1, x1000_1, x1001_1, rfl, HA, HK1, HO_14, HI0, HK, HB⟩ := hrel
  cases gk with
  | zero => exact absurd HA.out (by simp [impl_chi_inHull.l0])
  | succ k1 =>
   have H := HA.out
   clear HA
   simp only [impl_chi_inHull.l0] at H
   rcases ifd_ H with ⟨c8b0, H⟩ | ⟨c8b0, H⟩
   ·obtain ⟨c9b0, H⟩ := ifn_ H
    obtain ⟨c10b0, H⟩ := ifn_ H
    obtain ⟨c11, H⟩ := ifp_ H
    have c11b0 := eq_true c11
    have c11b1 := decide_eq_true c11
    clear c11
    obtain ⟨ji12, hji12⟩ : ∃ j_ : Int, (shl .i64 1 ((rd_T52 t101 x16_1).f0)) = j_ := ⟨_, rfl⟩
    replace H : (if 0 ≤ ((rd_T52 t101 x16_1).f1) then (if 0 ≤ ((rd_T52 t101 x16_1).f2) then (if (Go.bits .and .i64 a1 (Go.bits .or .i64 (Go.bits .or .i64 (ji12) (shl .i64 1 ((rd_T52 t101 x16_1).f1))) (shl .i64 1 ((rd_T52 t101 x16_1).f2)))) = (Go.bits .or .i64 (Go.bits .or .i64 (ji12) (shl .i64 1 ((rd_T52 t101 x16_1).f1))) (shl .i64 1 ((rd_T52 t101 x16_1).f2))) then ((impl_chi_isInside.f k1 x1000_1 x1001_1 a2 ((rd_T52 t101 x16_1).f0) ((rd_T52 t101 x16_1).f1) ((rd_T52 t101 x16_1).f2)).bind fun bt106 => (if bt106.1 = true then (some (true, bt106.2.1, bt106.2.2)) else (impl_chi_inHull.l0 k1 a1 a2 t101 (t101.length : Int) (wrap64 (x16_1 + 1)) bt106.2.1 bt106.2.2))) else (impl_chi_inHull.l0 k1 a1 a2 t101 (t101.length : Int) (wrap64 (x16_1 + 1)) x1000_1 x1001_1)) else (none)) else (none)) = some (r1, r2, r3) := by first | (rw [hji12] at H; exact H) | (simp only [hji12] at H ⊢; exact H)
    have hji12_ : (IntKind.i64.wrap (1 * 2 ^ min ((rd_T52 t101 x16_1).f0).toNat 64)) = ji12 := hji12
    have hji12z : ((rd_T52 t101 x16_1).f0) ≤ 64 → (IntKind.i64.wrap (1 * 2 ^ ((rd_T52 t101 x16_1).f0).toNat)) = ji12 := shl_small hji12
    have hji12u : (IntKind.i64.wrap (2 ^ min ((rd_T52 t101 x16_1).f0).toNat 64)) = ji12 := by have h_ := hji12_; rw [Int.one_mul] at h_; exact h_
    have hji12v : ((rd_T52 t101 x16_1).f0) ≤ 64 → (IntKind.i64.wrap (2 ^ ((rd_T52 t101 x16_1).f0).toNat)) = ji12 := fun hle_ => by have h_ := hji12z hle_; rw [Int.one_mul] at h_; exact h_
    have hji12y : (wrap64 (1 * 2 ^ min ((rd_T52 t101 x16_1).f0).toNat 64)) = ji12 := (i64_w _).symm.trans hji12_
    have hji12x : ((rd_T52 t101 x16_1).f0) ≤ 64 → (wrap64 (1 * 2 ^ ((rd_T52 t101 x16_1).f0).toNat)) = ji12 := fun h_ => (i64_w _).symm.trans (hji12z h_)
    obtain ⟨c13, H⟩ := ifp_ H
    have c13b0 := eq_true c13
    have c13b1 := decide_eq_true c13
    clear c13
    obtain ⟨ji14, hji14⟩ : ∃ j_ : Int, (shl .i64 1 ((rd_T52 t101 x16_1).f1)) = j_ := ⟨_, rfl⟩
    replace H : (if 0 ≤ ((rd_T52 t101 x16_1).f2) then (if (Go.bits .and .i64 a1 (Go.bits .or .i64 (Go.bits .or .i64 (ji12) (ji14)) (shl .i64 1 ((rd_T52 t101 x16_1).f2)))) = (Go.bits .or .i64 (Go.bits .or .i64 (ji12) (ji14)) (shl .i64 1 ((rd_T52 t101 x16_1).f2))) then ((impl_chi_isInside.f k1 x1000_1 x1001_1 a2 ((rd_T52 t101 x16_1).f0) ((rd_T52 t101 x16_1).f1) ((rd_T52 t101 x16_1).f2)).bind fun bt106 => (if bt106.1 = true then (some (true, bt106.2.1, bt106.2.2)) else (impl_chi_inHull.l0 k1 a1 a2 t101 (t101.length : Int) (wrap64 (x16_1 + 1)) bt106.2.1 bt106.2.2))) else (impl_chi_inHull.l0 k1 a1 a2 t101 (t101.length : Int) (wrap64 (x16_1 + 1)) x1000_1 x1001_1)) else (none)) = some (r1, r2, r3) := by first | (rw [hji14] at H; exact H) | (simp only [hji14] at H ⊢; exact H)
    have hji14_ : (IntKind.i64.wrap (1 * 2 ^ min ((rd_T52 t101 x16_1).f1).toNat 64)) = ji14 := hji14
    have hji14z : ((rd_T52 t101 x16_1).f1) ≤ 64 → (IntKind.i64.wrap (1 * 2 ^ ((rd_T52 t101 x16_1).f1).toNat)) = ji14 := shl_small hji14
    have hji14u : (IntKind.i64.wrap (2 ^ min ((rd_T52 t101 x16_1).f1).toNat 64)) = ji14 := by have h_ := hji14_; rw [Int.one_mul] at h_; exact h_
    have hji14v : ((rd_T52 t101 x16_1).f1) ≤ 64 → (IntKind.i64.wrap (2 ^ ((rd_T52 t101 x16_1).f1).toNat)) = ji14 := fun hle_ => by have h_ := hji14z hle_; rw [Int.one_mul] at h_; exact h_
    have hji14y : (wrap64 (1 * 2 ^ min ((rd_T52 t101 x16_1).f1).toNat 64)) = ji14 := (i64_w _).symm.trans hji14_
    have hji14x : ((rd_T52 t101 x16_1).f1) ≤ 64 → (wrap64 (1 * 2 ^ ((rd_T52 t101 x16_1).f1).toNat)) = ji14 := fun h_ => (i64_w _).symm.trans (hji14z h_)
    obtain ⟨c15, H⟩ := ifp_ H
    have c15b0 := eq_true c15
    have c15b1 := decide_eq_true c15
    clear c15
    obtain ⟨ji16, hji16⟩ : ∃ j_ : Int, (shl .i64 1 ((rd_T52 t101 x16_1).f2)) = j_ := ⟨_, rfl⟩
    replace H : (if (Go.bits .and .i64 a1 (Go.bits .or .i64 (Go.bits .or .i64 (ji12) (ji14)) (ji16))) = (Go.bits .or .i64 (Go.bits .or .i64 (ji12) (ji14)) (ji16)) then ((impl_chi_isInside.f k1 x1000_1 x1001_1 a2 ((rd_T52 t101 x16_1).f0) ((rd_T52 t101 x16_1).f1) ((rd_T52 t101 x16_1).f2)).bind fun bt106 => (if bt106.1 = true then (some (true, bt106.2.1, bt106.2.2)) else (impl_chi_inHull.l0 k1 a1 a2 t101 (t101.length : Int) (wrap64 (x16_1 + 1)) bt106.2.1 bt106.2.2))) else (impl_chi_inHull.l0 k1 a1 a2 t101 (t101.length : Int) (wrap64 (x16_1 + 1)) x1000_1 x1001_1)) = some (r1, r2, r3) := by first | (rw [hji16] at H; exact H) | (simp only [hji16] at H ⊢; exact H)
    have hji16_ : (IntKind.i64.wrap (1 * 2 ^ min ((rd_T52 t101 x16_1).f2).toNat 64)) = ji16 := hji16
    have hji16z : ((rd_T52 t101 x16_1).f2) ≤ 64 → (IntKind.i64.wrap (1 * 2 ^ ((rd_T52 t101 x16_1).f2).toNat)) = ji16 := shl_small hji16
    have hji16u : (IntKind.i64.wrap (2 ^ min ((rd_T52 t101 x16_1).f2).toNat 64)) = ji16 := by have h_ := hji16_; rw [Int.one_mul] at h_; exact h_
    have hji16v : ((rd_T52 t101 x16_1).f2) ≤ 64 → (IntKind.i64.wrap (2 ^ ((rd_T52 t101 x16_1).f2).toNat)) = ji16 := fun hle_ => by have h_ := hji16z hle_; rw [Int.one_mul] at h_; exact h_
    have hji16y : (wrap64 (1 * 2 ^ min ((rd_T52 t101 x16_1).f2).toNat 64)) = ji16 := (i64_w _).symm.trans hji16_
    have hji16x : ((rd_T52 t101 x16_1).f2) ≤ 64 → (wrap64 (1 * 2 ^ ((rd_T52 t101 x16_1).f2).toNat)) = ji16 := fun h_ => (i64_w _).symm.trans (hji16z h_)
    rcases ifc_ H with ⟨c17, H⟩ | ⟨c17, H⟩
    ·have c17b0 : ((Go.bits .and .i64 a1 (Go.bits .or .i64 (Go.bits .or .i64 (ji12) (ji14)) (ji16))) == (Go.bits .or .i64 (Go.bits .or .i64 (ji12) (ji14)) (ji16))) = true := beq_iff_eq.mpr c17
     have c17b1 : ((Go.bits .and .i64 a1 (Go.bits .or .i64 (Go.bits .or .i64 (ji12) (ji14)) (ji16))) != (Go.bits .or .i64 (Go.bits .or .i64 (ji12) (ji14)) (ji16))) = false := bne_eq_false_iff_eq.mpr c17
     clear c17
     replace H := oB_ H
     obtain ⟨⟨t106, t107, t108⟩, A180, H⟩ := H
     replace H : (if t106 = true then (some (true, t107, t108)) else (impl_chi_inHull.l0 k1 a1 a2 t101 (t101.length : Int) (wrap64 (x16_1 + 1)) t107 t108)) = some (r1, r2, r3) := H
     have A18 := aM_ A180
     clear A180
     by_cases c19 : t106 = true
     ·subst c19
      rw [if_pos rfl] at H
      simp only [Option.some.injEq, Prod.mk.injEq] at H
      obtain ⟨rfl, rfl, rfl⟩ := H
      obtain ⟨p104, q104, ad104, e104, hx104_0, hx104_1, hx104_2⟩ := atW_ (at_T52 (Kd.R_reads' HO_14.out).2.2 x16_1)
      cases e104
      go_wp2_with (first | ((with_reducible refine gate_dst (N := 8) rfl ?_); refine boxE_ (N := 8) #[.int .i64 0, .int .i64 0, .int .i64 0] 52 ?_; intro gb105 hg w20 hbox hb; replace HO_14 := aM_ (Kd.R_below (Kd.R_elderB (kr_ HO_14) gb105 (Nat.le_of_eq hg.symm)) hb); replace HB := aM_ (below_step (bI_ HB (IsS74.ge HI0.out)) hb); have BK105 := aM_ (hbox); have GW105 := aM_ ((by rw [hg]; exact (keep_size (w := w) (g := g) (row := none) (kp_ HK)) : w.heap.size ≤ gb105)); have GE105 := aM_ ((Nat.le_trans HW0.out (by rw [hg]; exact (keep_size (w := w) (g := g) (row := none) (kp_ HK)) : w.heap.size ≤ gb105) : w0.heap.size ≤ gb105)); replace HK := aM_ (KeepBut.trans (kp_ HK) (KeepBut.of_below hb g none) (.inl rfl)); have NB0_105 := aM_ ((by rw [hg]; exact Nat.ne_of_lt (IsS74.lt (show IsS74 w0 _ g x1000_1 x1001_1 from by repeat (first | (with_reducible first | exact HI0.out | apply IsS74.alloc | apply IsS74.drewN | apply IsS74.drew | apply IsS74.set_0 | apply IsS74.set_1) | exact HI0.out))) : g ≠ gb105)); have NB105_0 := aM_ ((by rw [hg]; exact Nat.ne_of_gt (IsS74.lt (show IsS74 w0 _ g x1000_1 x1001_1 from by repeat (first | (with_reducible first | exact HI0.out | apply IsS74.alloc | apply IsS74.drewN | apply IsS74.drew | apply IsS74.set_0 | apply IsS74.set_1) | exact HI0.out))) : gb105 ≠ g)); replace HI0 := aM_ (IsS74.below (by repeat (first | (with_reducible first | exact HI0.out | apply IsS74.alloc | apply IsS74.drewN | apply IsS74.drew | apply IsS74.set_0 | apply IsS74.set_1) | exact HI0.out)) hb); clear hb hbox hg; have hnb21 := NB105_0.out; have hnc21 := NB0_105.out; have hcz22_0 := bc_ BK105 0; have hcz22_1 := bc_ BK105 1; have hcz22_2 := bc_ BK105 2; have hfz22_0 := blk_frozen BK105.out 0; have hfz22_1 := blk_frozen BK105.out 1; have hfz22_2 := blk_frozen BK105.out 2) | (go_at_call 68; (with_reducible refine (impl_chi_isInside.calls k1 g x1000_1 x1001_1 a2 ((rd_T52 t101 x16_1).f0) ((rd_T52 t101 x16_1).f1) ((rd_T52 t101 x16_1).f2) true t107 t108 w0 _ ?side1 ?side2 A18.out).mono ?_); (case side1 => repeat (first | (with_reducible first | exact HI0.out | apply IsS74.alloc | apply IsS74.drewN | apply IsS74.drew | apply IsS74.set_0 | apply IsS74.set_1 | refine IsS74.far ?_ NB0_105.out _) | exact HI0.out)); (case side2 => repeat (first | (with_reducible first | exact HB.out | apply bA_ | apply bN_ | apply bD_ | refine below_set ?_ (IsS74.ge HI0.out) | refine below_set ?_ GE105.out) | exact HB.out)); rintro e w23 ⟨rfl, hi, hb, hk⟩; replace HO_14 := aM_ (Kd.R_mono (Kd.R_keep (IsS74.apart (show IsS74 w0 _ g x1000_1 x1001_1 from by repeat (first | (with_reducible first | exact HI0.out | apply IsS74.alloc | apply IsS74.drewN | apply IsS74.drew | apply IsS74.set_0 | apply IsS74.set_1 | refine IsS74.far ?_ NB0_105.out _) | exact HI0.out)) (by (with_reducible repeat (first | apply kA_ | apply kN_ | apply kD_)); exact (Kd.R_mono (Kd.R_far (p := ⟨gb105, 2, none⟩) (Kd.R_far (p := ⟨gb105, 1, none⟩) (Kd.R_far (p := ⟨gb105, 0, none⟩) (Kd.R_mono HO_14.out (fun k_ hk => (⟨hk, hk.2⟩ : _ ∧ k_ ≠ gb105))) (fun _ hk => hk.2) (.int .i64 ((rd_T52 t101 x16_1).f0))) (fun _ hk => hk.2) (.int .i64 ((rd_T52 t101 x16_1).f1))) (fun _ hk => hk.2) (.int .i64 ((rd_T52 t101 x16_1).f2))) (fun _ h_ => h_.1))) (by decide)) hk (fun _ h => h.2)) (fun _ h => h.1)); replace BK105 := aM_ (KeepBut.blk hk (g' := gb105) (o := .cells #[.int .i64 ((rd_T52 t101 x16_1).f0), .int .i64 ((rd_T52 t101 x16_1).f1), .int .i64 ((rd_T52 t101 x16_1).f2)] 52 (0, 0)) (by (with_reducible repeat (first | refine blk_drewN ?_ _ | refine blk_drew ?_ | refine blk_alloc ?_ _)); refine blk_put (cs := #[.int .i64 ((rd_T52 t101 x16_1).f0), .int .i64 ((rd_T52 t101 x16_1).f1), .int .i64 0]) ?_ 2 _ rfl; (with_reducible repeat (first | refine blk_drewN ?_ _ | refine blk_drew ?_ | refine blk_alloc ?_ _)); refine blk_put (cs := #[.int .i64 ((rd_T52 t101 x16_1).f0), .int .i64 0, .int .i64 0]) ?_ 1 _ rfl; (with_reducible repeat (first | refine blk_drewN ?_ _ | refine blk_drew ?_ | refine blk_alloc ?_ _)); refine blk_put (cs := #[.int .i64 0, .int .i64 0, .int .i64 0]) ?_ 0 _ rfl; (with_reducible repeat (first | refine blk_drewN ?_ _ | refine blk_drew ?_ | refine blk_alloc ?_ _)); exact BK105.out) NB105_0.out (by simp)); replace HK := aM_ (KeepBut.trans (by repeat (first | (with_reducible first | exact HK.out | apply KeepBut.set_ | apply keep_drewN | apply keep_drew | apply keep_alloc | refine keep_far ?_ GW105.out _) | exact HK.out)) hk (.inl rfl)); replace HB := aM_ (hb); replace HI0 := aM_ (hi); (try clear hb); (try clear hk); (try clear hi)))
      repeat (go_quiet (first | ((with_reducible refine gate_dst (N := 8) rfl ?_); refine boxE_ (N := 8) #[.int .i64 0, .int .i64 0, .int .i64 0] 52 ?_; intro gb105 hg w20 hbox hb; replace HO_14 := aM_ (Kd.R_below (Kd.R_elderB (kr_ HO_14) gb105 (Nat.le_of_eq hg.symm)) hb); replace HB := aM_ (below_step (bI_ HB (IsS74.ge HI0.out)) hb); have BK105 := aM_ (hbox); have GW105 := aM_ ((by rw [hg]; exact (keep_size (w := w) (g := g) (row := none) (kp_ HK)) : w.heap.size ≤ gb105)); have GE105 := aM_ ((Nat.le_trans HW0.out (by rw [hg]; exact (keep_size (w := w) (g := g) (row := none) (kp_ HK)) : w.heap.size ≤ gb105) : w0.heap.size ≤ gb105)); replace HK := aM_ (KeepBut.trans (kp_ HK) (KeepBut.of_below hb g none) (.inl rfl)); have NB0_105 := aM_ ((by rw [hg]; exact Nat.ne_of_lt (IsS74.lt (show IsS74 w0 _ g x1000_1 x1001_1 from by repeat (first | (with_reducible first | exact HI0.out | apply IsS74.alloc | apply IsS74.drewN | apply IsS74.drew | apply IsS74.set_0 | apply IsS74.set_1) | exact HI0.out))) : g ≠ gb105)); have NB105_0 := aM_ ((by rw [hg]; exact Nat.ne_of_gt (IsS74.lt (show IsS74 w0 _ g x1000_1 x1001_1 from by repeat (first | (with_reducible first | exact HI0.out | apply IsS74.alloc | apply IsS74.drewN | apply IsS74.drew | apply IsS74.set_0 | apply IsS74.set_1) | exact HI0.out))) : gb105 ≠ g)); replace HI0 := aM_ (IsS74.below (by repeat (first | (with_reducible first | exact HI0.out | apply IsS74.alloc | apply IsS74.drewN | apply IsS74.drew | apply IsS74.set_0 | apply IsS74.set_1) | exact HI0.out)) hb); clear hb hbox hg; have hnb21 := NB105_0.out; have hnc21 := NB0_105.out; have hcz22_0 := bc_ BK105 0; have hcz22_1 := bc_ BK105 1; have hcz22_2 := bc_ BK105 2; have hfz22_0 := blk_frozen BK105.out 0; have hfz22_1 := blk_frozen BK105.out 1; have hfz22_2 := blk_frozen BK105.out 2) | (go_at_call 68; (with_reducible refine (impl_chi_isInside.calls k1 g x1000_1 x1001_1 a2 ((rd_T52 t101 x16_1).f0) ((rd_T52 t101 x16_1).f1) ((rd_T52 t101 x16_1).f2) true t107 t108 w0 _ ?side1 ?side2 A18.out).mono ?_); (case side1 => repeat (first | (with_reducible first | exact HI0.out | apply IsS74.alloc | apply IsS74.drewN | apply IsS74.drew | apply IsS74.set_0 | apply IsS74.set_1 | refine IsS74.far ?_ NB0_105.out _) | exact HI0.out)); (case side2 => repeat (first | (with_reducible first | exact HB.out | apply bA_ | apply bN_ | apply bD_ | refine below_set ?_ (IsS74.ge HI0.out) | refine below_set ?_ GE105.out) | exact HB.out)); rintro e w23 ⟨rfl, hi, hb, hk⟩; replace HO_14 := aM_ (Kd.R_mono (Kd.R_keep (IsS74.apart (show IsS74 w0 _ g x1000_1 x1001_1 from by repeat (first | (with_reducible first | exact HI0.out | apply IsS74.alloc | apply IsS74.drewN | apply IsS74.drew | apply IsS74.set_0 | apply IsS74.set_1 | refine IsS74.far ?_ NB0_105.out _) | exact HI0.out)) (by (with_reducible repeat (first | apply kA_ | apply kN_ | apply kD_)); exact (Kd.R_mono (Kd.R_far (p := ⟨gb105, 2, none⟩) (Kd.R_far (p := ⟨gb105, 1, none⟩) (Kd.R_far (p := ⟨gb105, 0, none⟩) (Kd.R_mono HO_14.out (fun k_ hk => (⟨hk, hk.2⟩ : _ ∧ k_ ≠ gb105))) (fun _ hk => hk.2) (.int .i64 ((rd_T52 t101 x16_1).f0))) (fun _ hk => hk.2) (.int .i64 ((rd_T52 t101 x16_1).f1))) (fun _ hk => hk.2) (.int .i64 ((rd_T52 t101 x16_1).f2))) (fun _ h_ => h_.1))) (by decide)) hk (fun _ h => h.2)) (fun _ h => h.1)); replace BK105 := aM_ (KeepBut.blk hk (g' := gb105) (o := .cells #[.int .i64 ((rd_T52 t101 x16_1).f0), .int .i64 ((rd_T52 t101 x16_1).f1), .int .i64 ((rd_T52 t101 x16_1).f2)] 52 (0, 0)) (by (with_reducible repeat (first | refine blk_drewN ?_ _ | refine blk_drew ?_ | refine blk_alloc ?_ _)); refine blk_put (cs := #[.int .i64 ((rd_T52 t101 x16_1).f0), .int .i64 ((rd_T52 t101 x16_1).f1), .int .i64 0]) ?_ 2 _ rfl; (with_reducible repeat (first | refine blk_drewN ?_ _ | refine blk_drew ?_ | refine blk_alloc ?_ _)); refine blk_put (cs := #[.int .i64 ((rd_T52 t101 x16_1).f0), .int .i64 0, .int .i64 0]) ?_ 1 _ rfl; (with_reducible repeat (first | refine blk_drewN ?_ _ | refine blk_drew ?_ | refine blk_alloc ?_ _)); refine blk_put (cs := #[.int .i64 0, .int .i64 0, .int .i64 0]) ?_ 0 _ rfl; (with_reducible repeat (first | refine blk_drewN ?_ _ | refine blk_drew ?_ | refine blk_alloc ?_ _)); exact BK105.out) NB105_0.out (by simp)); replace HK := aM_ (KeepBut.trans (by repeat (first | (with_reducible first | exact HK.out | apply KeepBut.set_ | apply keep_drewN | apply keep_drew | apply keep_alloc | refine keep_far ?_ GW105.out _) | exact HK.out)) hk (.inl rfl)); replace HB := aM_ (hb); replace HI0 := aM_ (hi); (try clear hb); (try clear hk); (try clear hi))); try go_wp2_with (first | ((with_reducible refine gate_dst (N := 8) rfl ?_); refine boxE_ (N := 8) #[.int .i64 0, .int .i64 0, .int .i64 0] 52 ?_; intro gb105 hg w20 hbox hb; replace HO_14 := aM_ (Kd.R_below (Kd.R_elderB (kr_ HO_14) gb105 (Nat.le_of_eq hg.symm)) hb); replace HB := aM_ (below_step (bI_ HB (IsS74.ge HI0.out)) hb); have BK105 := aM_ (hbox); have GW105 := aM_ ((by rw [hg]; exact (keep_size (w := w) (g := g) (row := none) (kp_ HK)) : w.heap.size ≤ gb105)); have GE105 := aM_ ((Nat.le_trans HW0.out (by rw [hg]; exact (keep_size (w := w) (g := g) (row := none) (kp_ HK)) : w.heap.size ≤ gb105) : w0.heap.size ≤ gb105)); replace HK := aM_ (KeepBut.trans (kp_ HK) (KeepBut.of_below hb g none) (.inl rfl)); have NB0_105 := aM_ ((by rw [hg]; exact Nat.ne_of_lt (IsS74.lt (show IsS74 w0 _ g x1000_1 x1001_1 from by repeat (first | (with_reducible first | exact HI0.out | apply IsS74.alloc | apply IsS74.drewN | apply IsS74.drew | apply IsS74.set_0 | apply IsS74.set_1) | exact HI0.out))) : g ≠ gb105)); have NB105_0 := aM_ ((by rw [hg]; exact Nat.ne_of_gt (IsS74.lt (show IsS74 w0 _ g x1000_1 x1001_1 from by repeat (first | (with_reducible first | exact HI0.out | apply IsS74.alloc | apply IsS74.drewN | apply IsS74.drew | apply IsS74.set_0 | apply IsS74.set_1) | exact HI0.out))) : gb105 ≠ g)); replace HI0 := aM_ (IsS74.below (by repeat (first | (with_reducible first | exact HI0.out | apply IsS74.alloc | apply IsS74.drewN | apply IsS74.drew | apply IsS74.set_0 | apply IsS74.set_1) | exact HI0.out)) hb); clear hb hbox hg; have hnb21 := NB105_0.out; have hnc21 := NB0_105.out; have hcz22_0 := bc_ BK105 0; have hcz22_1 := bc_ BK105 1; have hcz22_2 := bc_ BK105 2; have hfz22_0 := blk_frozen BK105.out 0; have hfz22_1 := blk_frozen BK105.out 1; have hfz22_2 := blk_frozen BK105.out 2) | (go_at_call 68; (with_reducible refine (impl_chi_isInside.calls k1 g x1000_1 x1001_1 a2 ((rd_T52 t101 x16_1).f0) ((rd_T52 t101 x16_1).f1) ((rd_T52 t101 x16_1).f2) true t107 t108 w0 _ ?side1 ?side2 A18.out).mono ?_); (case side1 => repeat (first | (with_reducible first | exact HI0.out | apply IsS74.alloc | apply IsS74.drewN | apply IsS74.drew | apply IsS74.set_0 | apply IsS74.set_1 | refine IsS74.far ?_ NB0_105.out _) | exact HI0.out)); (case side2 => repeat (first | (with_reducible first | exact HB.out | apply bA_ | apply bN_ | apply bD_ | refine below_set ?_ (IsS74.ge HI0.out) | refine below_set ?_ GE105.out) | exact HB.out)); rintro e w23 ⟨rfl, hi, hb, hk⟩; replace HO_14 := aM_ (Kd.R_mono (Kd.R_keep (IsS74.apart (show IsS74 w0 _ g x1000_1 x1001_1 from by repeat (first | (with_reducible first | exact HI0.out | apply IsS74.alloc | apply IsS74.drewN | apply IsS74.drew | apply IsS74.set_0 | apply IsS74.set_1 | refine IsS74.far ?_ NB0_105.out _) | exact HI0.out)) (by (with_reducible repeat (first | apply kA_ | apply kN_ | apply kD_)); exact (Kd.R_mono (Kd.R_far (p := ⟨gb105, 2, none⟩) (Kd.R_far (p := ⟨gb105, 1, none⟩) (Kd.R_far (p := ⟨gb105, 0, none⟩) (Kd.R_mono HO_14.out (fun k_ hk => (⟨hk, hk.2⟩ : _ ∧ k_ ≠ gb105))) (fun _ hk => hk.2) (.int .i64 ((rd_T52 t101 x16_1).f0))) (fun _ hk => hk.2) (.int .i64 ((rd_T52 t101 x16_1).f1))) (fun _ hk => hk.2) (.int .i64 ((rd_T52 t101 x16_1).f2))) (fun _ h_ => h_.1))) (by decide)) hk (fun _ h => h.2)) (fun _ h => h.1)); replace BK105 := aM_ (KeepBut.blk hk (g' := gb105) (o := .cells #[.int .i64 ((rd_T52 t101 x16_1).f0), .int .i64 ((rd_T52 t101 x16_1).f1), .int .i64 ((rd_T52 t101 x16_1).f2)] 52 (0, 0)) (by (with_reducible repeat (first | refine blk_drewN ?_ _ | refine blk_drew ?_ | refine blk_alloc ?_ _)); refine blk_put (cs := #[.int .i64 ((rd_T52 t101 x16_1).f0), .int .i64 ((rd_T52 t101 x16_1).f1), .int .i64 0]) ?_ 2 _ rfl; (with_reducible repeat (first | refine blk_drewN ?_ _ | refine blk_drew ?_ | refine blk_alloc ?_ _)); refine blk_put (cs := #[.int .i64 ((rd_T52 t101 x16_1).f0), .int .i64 0, .int .i64 0]) ?_ 1 _ rfl; (with_reducible repeat (first | refine blk_drewN ?_ _ | refine blk_drew ?_ | refine blk_alloc ?_ _)); refine blk_put (cs := #[.int .i64 0, .int .i64 0, .int .i64 0]) ?_ 0 _ rfl; (with_reducible repeat (first | refine blk_drewN ?_ _ | refine blk_drew ?_ | refine blk_alloc ?_ _)); exact BK105.out) NB105_0.out (by simp)); replace HK := aM_ (KeepBut.trans (by repeat (first | (with_reducible first | exact HK.out | apply KeepBut.set_ | apply keep_drewN | apply keep_drew | apply keep_alloc | refine keep_far ?_ GW105.out _) | exact HK.out)) hk (.inl rfl)); replace HB := aM_ (hb); replace HI0 := aM_ (hi); (try clear hb); (try clear hk); (try clear hi))))
      go_ret
      exact ⟨by first | rfl | (simp [errW_none, errW_some] <;> rfl) | (simp only [← hji12, ← hji14, ← hji16]; first | rfl | (simp [errW_none, errW_some] <;> rfl)) | (simp [*, errW_none, errW_some] <;> rfl), by repeat (first | (with_reducible first | exact HI0.out | apply IsS74.alloc | apply IsS74.drewN | apply IsS74.drew | apply IsS74.set_0 | apply IsS74.set_1 | refine IsS74.far ?_ NB0_105.out _) | exact HI0.out), bI_ HB (IsS74.ge HI0.out), by repeat (first | (with_reducible first | exact HK.out | apply KeepBut.set_ | apply keep_drewN | apply keep_drew | apply keep_alloc | refine keep_far ?_ GW105.out _) | exact HK.out)⟩
     ·replace c19 := Bool.eq_false_iff.mpr c19
      subst c19
      rw [if_neg (show ¬ (false = true) by decide)] at H
      have H' := aM_ H
      clear H
      obtain ⟨p104, q104, ad104, e104, hx104_0, hx104_1, hx104_2⟩ := atW_ (at_T52 (Kd.R_reads' HO_14.out).2.2 x16_1)
      cases e104
      go_wp2_with (first | ((with_reducible refine gate_dst (N := 8) rfl ?_); refine boxE_ (N := 8) #[.int .i64 0, .int .i64 0, .int .i64 0] 52 ?_; intro gb105 hg w24 hbox hb; replace HO_14 := aM_ (Kd.R_below (Kd.R_elderB (kr_ HO_14) gb105 (Nat.le_of_eq hg.symm)) hb); replace HB := aM_ (below_step (bI_ HB (IsS74.ge HI0.out)) hb); have BK105 := aM_ (hbox); have GW105 := aM_ ((by rw [hg]; exact (keep_size (w := w) (g := g) (row := none) (kp_ HK)) : w.heap.size ≤ gb105)); have GE105 := aM_ ((Nat.le_trans HW0.out (by rw [hg]; exact (keep_size (w := w) (g := g) (row := none) (kp_ HK)) : w.heap.size ≤ gb105) : w0.heap.size ≤ gb105)); replace HK := aM_ (KeepBut.trans (kp_ HK) (KeepBut.of_below hb g none) (.inl rfl)); have NB0_105 := aM_ ((by rw [hg]; exact Nat.ne_of_lt (IsS74.lt (show IsS74 w0 _ g x1000_1 x1001_1 from by repeat (first | (with_reducible first | exact HI0.out | apply IsS74.alloc | apply IsS74.drewN | apply IsS74.drew | apply IsS74.set_0 | apply IsS74.set_1) | exact HI0.out))) : g ≠ gb105)); have NB105_0 := aM_ ((by rw [hg]; exact Nat.ne_of_gt (IsS74.lt (show IsS74 w0 _ g x1000_1 x1001_1 from by repeat (first | (with_reducible first | exact HI0.out | apply IsS74.alloc | apply IsS74.drewN | apply IsS74.drew | apply IsS74.set_0 | apply IsS74.set_1) | exact HI0.out))) : gb105 ≠ g)); replace HI0 := aM_ (IsS74.below (by repeat (first | (with_reducible first | exact HI0.out | apply IsS74.alloc | apply IsS74.drewN | apply IsS74.drew | apply IsS74.set_0 | apply IsS74.set_1) | exact HI0.out)) hb); clear hb hbox hg; have hnb25 := NB105_0.out; have hnc25 := NB0_105.out; have hcz26_0 := bc_ BK105 0; have hcz26_1 := bc_ BK105 1; have hcz26_2 := bc_ BK105 2; have hfz26_0 := blk_frozen BK105.out 0; have hfz26_1 := blk_frozen BK105.out 1; have hfz26_2 := blk_frozen BK105.out 2) | (go_at_call 68; (with_reducible refine (impl_chi_isInside.calls k1 g x1000_1 x1001_1 a2 ((rd_T52 t101 x16_1).f0) ((rd_T52 t101 x16_1).f1) ((rd_T52 t101 x16_1).f2) false t107 t108 w0 _ ?side1 ?side2 A18.out).mono ?_); (case side1 => repeat (first | (with_reducible first | exact HI0.out | apply IsS74.alloc | apply IsS74.drewN | apply IsS74.drew | apply IsS74.set_0 | apply IsS74.set_1 | refine IsS74.far ?_ NB0_105.out _) | exact HI0.out)); (case side2 => repeat (first | (with_reducible first | exact HB.out | apply bA_ | apply bN_ | apply bD_ | refine below_set ?_ (IsS74.ge HI0.out) | refine below_set ?_ GE105.out) | exact HB.out)); rintro e w27 ⟨rfl, hi, hb, hk⟩; replace HO_14 := aM_ (Kd.R_mono (Kd.R_keep (IsS74.apart (show IsS74 w0 _ g x1000_1 x1001_1 from by repeat (first | (with_reducible first | exact HI0.out | apply IsS74.alloc | apply IsS74.drewN | apply IsS74.drew | apply IsS74.set_0 | apply IsS74.set_1 | refine IsS74.far ?_ NB0_105.out _) | exact HI0.out)) (by (with_reducible repeat (first | apply kA_ | apply kN_ | apply kD_)); exact (Kd.R_mono (Kd.R_far (p := ⟨gb105, 2, none⟩) (Kd.R_far (p := ⟨gb105, 1, none⟩) (Kd.R_far (p := ⟨gb105, 0, none⟩) (Kd.R_mono HO_14.out (fun k_ hk => (⟨hk, hk.2⟩ : _ ∧ k_ ≠ gb105))) (fun _ hk => hk.2) (.int .i64 ((rd_T52 t101 x16_1).f0))) (fun _ hk => hk.2) (.int .i64 ((rd_T52 t101 x16_1).f1))) (fun _ hk => hk.2) (.int .i64 ((rd_T52 t101 x16_1).f2))) (fun _ h_ => h_.1))) (by decide)) hk (fun _ h => h.2)) (fun _ h => h.1)); replace BK105 := aM_ (KeepBut.blk hk (g' := gb105) (o := .cells #[.int .i64 ((rd_T52 t101 x16_1).f0), .int .i64 ((rd_T52 t101 x16_1).f1), .int .i64 ((rd_T52 t101 x16_1).f2)] 52 (0, 0)) (by (with_reducible repeat (first | refine blk_drewN ?_ _ | refine blk_drew ?_ | refine blk_alloc ?_ _)); refine blk_put (cs := #[.int .i64 ((rd_T52 t101 x16_1).f0), .int .i64 ((rd_T52 t101 x16_1).f1), .int .i64 0]) ?_ 2 _ rfl; (with_reducible repeat (first | refine blk_drewN ?_ _ | refine blk_drew ?_ | refine blk_alloc ?_ _)); refine blk_put (cs := #[.int .i64 ((rd_T52 t101 x16_1).f0), .int .i64 0, .int .i64 0]) ?_ 1 _ rfl; (with_reducible repeat (first | refine blk_drewN ?_ _ | refine blk_drew ?_ | refine blk_alloc ?_ _)); refine blk_put (cs := #[.int .i64 0, .int .i64 0, .int .i64 0]) ?_ 0 _ rfl; (with_reducible repeat (first | refine blk_drewN ?_ _ | refine blk_drew ?_ | refine blk_alloc ?_ _)); exact BK105.out) NB105_0.out (by simp)); replace HK := aM_ (KeepBut.trans (by repeat (first | (with_reducible first | exact HK.out | apply KeepBut.set_ | apply keep_drewN | apply keep_drew | apply keep_alloc | refine keep_far ?_ GW105.out _) | exact HK.out)) hk (.inl rfl)); replace HB := aM_ (hb); replace HI0 := aM_ (hi); (try clear hb); (try clear hk); (try clear hi)))
      repeat (go_quiet (first | ((with_reducible refine gate_dst (N := 8) rfl ?_); refine boxE_ (N := 8) #[.int .i64 0, .int .i64 0, .int .i64 0] 52 ?_; intro gb105 hg w24 hbox hb; replace HO_14 := aM_ (Kd.R_below (Kd.R_elderB (kr_ HO_14) gb105 (Nat.le_of_eq hg.symm)) hb); replace HB := aM_ (below_step (bI_ HB (IsS74.ge HI0.out)) hb); have BK105 := aM_ (hbox); have GW105 := aM_ ((by rw [hg]; exact (keep_size (w := w) (g := g) (row := none) (kp_ HK)) : w.heap.size ≤ gb105)); have GE105 := aM_ ((Nat.le_trans HW0.out (by rw [hg]; exact (keep_size (w := w) (g := g) (row := none) (kp_ HK)) : w.heap.size ≤ gb105) : w0.heap.size ≤ gb105)); replace HK := aM_ (KeepBut.trans (kp_ HK) (KeepBut.of_below hb g none) (.inl rfl)); have NB0_105 := aM_ ((by rw [hg]; exact Nat.ne_of_lt (IsS74.lt (show IsS74 w0 _ g x1000_1 x1001_1 from by repeat (first | (with_reducible first | exact HI0.out | apply IsS74.alloc | apply IsS74.drewN | apply IsS74.drew | apply IsS74.set_0 | apply IsS74.set_1) | exact HI0.out))) : g ≠ gb105)); have NB105_0 := aM_ ((by rw [hg]; exact Nat.ne_of_gt (IsS74.lt (show IsS74 w0 _ g x1000_1 x1001_1 from by repeat (first | (with_reducible first | exact HI0.out | apply IsS74.alloc | apply IsS74.drewN | apply IsS74.drew | apply IsS74.set_0 | apply IsS74.set_1) | exact HI0.out))) : gb105 ≠ g)); replace HI0 := aM_ (IsS74.below (by repeat (first | (with_reducible first | exact HI0.out | apply IsS74.alloc | apply IsS74.drewN | apply IsS74.drew | apply IsS74.set_0 | apply IsS74.set_1) | exact HI0.out)) hb); clear hb hbox hg; have hnb25 := NB105_0.out; have hnc25 := NB0_105.out; have hcz26_0 := bc_ BK105 0; have hcz26_1 := bc_ BK105 1; have hcz26_2 := bc_ BK105 2; have hfz26_0 := blk_frozen BK105.out 0; have hfz26_1 := blk_frozen BK105.out 1; have hfz26_2 := blk_frozen BK105.out 2) | (go_at_call 68; (with_reducible refine (impl_chi_isInside.calls k1 g x1000_1 x1001_1 a2 ((rd_T52 t101 x16_1).f0) ((rd_T52 t101 x16_1).f1) ((rd_T52 t101 x16_1).f2) false t107 t108 w0 _ ?side1 ?side2 A18.out).mono ?_); (case side1 => repeat (first | (with_reducible first | exact HI0.out | apply IsS74.alloc | apply IsS74.drewN | apply IsS74.drew | apply IsS74.set_0 | apply IsS74.set_1 | refine IsS74.far ?_ NB0_105.out _) | exact HI0.out)); (case side2 => repeat (first | (with_reducible first | exact HB.out | apply bA_ | apply bN_ | apply bD_ | refine below_set ?_ (IsS74.ge HI0.out) | refine below_set ?_ GE105.out) | exact HB.out)); rintro e w27 ⟨rfl, hi, hb, hk⟩; replace HO_14 := aM_ (Kd.R_mono (Kd.R_keep (IsS74.apart (show IsS74 w0 _ g x1000_1 x1001_1 from by repeat (first | (with_reducible first | exact HI0.out | apply IsS74.alloc | apply IsS74.drewN | apply IsS74.drew | apply IsS74.set_0 | apply IsS74.set_1 | refine IsS74.far ?_ NB0_105.out _) | exact HI0.out)) (by (with_reducible repeat (first | apply kA_ | apply kN_ | apply kD_)); exact (Kd.R_mono (Kd.R_far (p := ⟨gb105, 2, none⟩) (Kd.R_far (p := ⟨gb105, 1, none⟩) (Kd.R_far (p := ⟨gb105, 0, none⟩) (Kd.R_mono HO_14.out (fun k_ hk => (⟨hk, hk.2⟩ : _ ∧ k_ ≠ gb105))) (fun _ hk => hk.2) (.int .i64 ((rd_T52 t101 x16_1).f0))) (fun _ hk => hk.2) (.int .i64 ((rd_T52 t101 x16_1).f1))) (fun _ hk => hk.2) (.int .i64 ((rd_T52 t101 x16_1).f2))) (fun _ h_ => h_.1))) (by decide)) hk (fun _ h => h.2)) (fun _ h => h.1)); replace BK105 := aM_ (KeepBut.blk hk (g' := gb105) (o := .cells #[.int .i64 ((rd_T52 t101 x16_1).f0), .int .i64 ((rd_T52 t101 x16_1).f1), .int .i64 ((rd_T52 t101 x16_1).f2)] 52 (0, 0)) (by (with_reducible repeat (first | refine blk_drewN ?_ _ | refine blk_drew ?_ | refine blk_alloc ?_ _)); refine blk_put (cs := #[.int .i64 ((rd_T52 t101 x16_1).f0), .int .i64 ((rd_T52 t101 x16_1).f1), .int .i64 0]) ?_ 2 _ rfl; (with_reducible repeat (first | refine blk_drewN ?_ _ | refine blk_drew ?_ | refine blk_alloc ?_ _)); refine blk_put (cs := #[.int .i64 ((rd_T52 t101 x16_1).f0), .int .i64 0, .int .i64 0]) ?_ 1 _ rfl; (with_reducible repeat (first | refine blk_drewN ?_ _ | refine blk_drew ?_ | refine blk_alloc ?_ _)); refine blk_put (cs := #[.int .i64 0, .int .i64 0, .int .i64 0]) ?_ 0 _ rfl; (with_reducible repeat (first | refine blk_drewN ?_ _ | refine blk_drew ?_ | refine blk_alloc ?_ _)); exact BK105.out) NB105_0.out (by simp)); replace HK := aM_ (KeepBut.trans (by repeat (first | (with_reducible first | exact HK.out | apply KeepBut.set_ | apply keep_drewN | apply keep_drew | apply keep_alloc | refine keep_far ?_ GW105.out _) | exact HK.out)) hk (.inl rfl)); replace HB := aM_ (hb); replace HI0 := aM_ (hi); (try clear hb); (try clear hk); (try clear hi))); try go_wp2_with (first | ((with_reducible refine gate_dst (N := 8) rfl ?_); refine boxE_ (N := 8) #[.int .i64 0, .int .i64 0, .int .i64 0] 52 ?_; intro gb105 hg w24 hbox hb; replace HO_14 := aM_ (Kd.R_below (Kd.R_elderB (kr_ HO_14) gb105 (Nat.le_of_eq hg.symm)) hb); replace HB := aM_ (below_step (bI_ HB (IsS74.ge HI0.out)) hb); have BK105 := aM_ (hbox); have GW105 := aM_ ((by rw [hg]; exact (keep_size (w := w) (g := g) (row := none) (kp_ HK)) : w.heap.size ≤ gb105)); have GE105 := aM_ ((Nat.le_trans HW0.out (by rw [hg]; exact (keep_size (w := w) (g := g) (row := none) (kp_ HK)) : w.heap.size ≤ gb105) : w0.heap.size ≤ gb105)); replace HK := aM_ (KeepBut.trans (kp_ HK) (KeepBut.of_below hb g none) (.inl rfl)); have NB0_105 := aM_ ((by rw [hg]; exact Nat.ne_of_lt (IsS74.lt (show IsS74 w0 _ g x1000_1 x1001_1 from by repeat (first | (with_reducible first | exact HI0.out | apply IsS74.alloc | apply IsS74.drewN | apply IsS74.drew | apply IsS74.set_0 | apply IsS74.set_1) | exact HI0.out))) : g ≠ gb105)); have NB105_0 := aM_ ((by rw [hg]; exact Nat.ne_of_gt (IsS74.lt (show IsS74 w0 _ g x1000_1 x1001_1 from by repeat (first | (with_reducible first | exact HI0.out | apply IsS74.alloc | apply IsS74.drewN | apply IsS74.drew | apply IsS74.set_0 | apply IsS74.set_1) | exact HI0.out))) : gb105 ≠ g)); replace HI0 := aM_ (IsS74.below (by repeat (first | (with_reducible first | exact HI0.out | apply IsS74.alloc | apply IsS74.drewN | apply IsS74.drew | apply IsS74.set_0 | apply IsS74.set_1) | exact HI0.out)) hb); clear hb hbox hg; have hnb25 := NB105_0.out; have hnc25 := NB0_105.out; have hcz26_0 := bc_ BK105 0; have hcz26_1 := bc_ BK105 1; have hcz26_2 := bc_ BK105 2; have hfz26_0 := blk_frozen BK105.out 0; have hfz26_1 := blk_frozen BK105.out 1; have hfz26_2 := blk_frozen BK105.out 2) | (go_at_call 68; (with_reducible refine (impl_chi_isInside.calls k1 g x1000_1 x1001_1 a2 ((rd_T52 t101 x16_1).f0) ((rd_T52 t101 x16_1).f1) ((rd_T52 t101 x16_1).f2) false t107 t108 w0 _ ?side1 ?side2 A18.out).mono ?_); (case side1 => repeat (first | (with_reducible first | exact HI0.out | apply IsS74.alloc | apply IsS74.drewN | apply IsS74.drew | apply IsS74.set_0 | apply IsS74.set_1 | refine IsS74.far ?_ NB0_105.out _) | exact HI0.out)); (case side2 => repeat (first | (with_reducible first | exact HB.out | apply bA_ | apply bN_ | apply bD_ | refine below_set ?_ (IsS74.ge HI0.out) | refine below_set ?_ GE105.out) | exact HB.out)); rintro e w27 ⟨rfl, hi, hb, hk⟩; replace HO_14 := aM_ (Kd.R_mono (Kd.R_keep (IsS74.apart (show IsS74 w0 _ g x1000_1 x1001_1 from by repeat (first | (with_reducible first | exact HI0.out | apply IsS74.alloc | apply IsS74.drewN | apply IsS74.drew | apply IsS74.set_0 | apply IsS74.set_1 | refine IsS74.far ?_ NB0_105.out _) | exact HI0.out)) (by (with_reducible repeat (first | apply kA_ | apply kN_ | apply kD_)); exact (Kd.R_mono (Kd.R_far (p := ⟨gb105, 2, none⟩) (Kd.R_far (p := ⟨gb105, 1, none⟩) (Kd.R_far (p := ⟨gb105, 0, none⟩) (Kd.R_mono HO_14.out (fun k_ hk => (⟨hk, hk.2⟩ : _ ∧ k_ ≠ gb105))) (fun _ hk => hk.2) (.int .i64 ((rd_T52 t101 x16_1).f0))) (fun _ hk => hk.2) (.int .i64 ((rd_T52 t101 x16_1).f1))) (fun _ hk => hk.2) (.int .i64 ((rd_T52 t101 x16_1).f2))) (fun _ h_ => h_.1))) (by decide)) hk (fun _ h => h.2)) (fun _ h => h.1)); replace BK105 := aM_ (KeepBut.blk hk (g' := gb105) (o := .cells #[.int .i64 ((rd_T52 t101 x16_1).f0), .int .i64 ((rd_T52 t101 x16_1).f1), .int .i64 ((rd_T52 t101 x16_1).f2)] 52 (0, 0)) (by (with_reducible repeat (first | refine blk_drewN ?_ _ | refine blk_drew ?_ | refine blk_alloc ?_ _)); refine blk_put (cs := #[.int .i64 ((rd_T52 t101 x16_1).f0), .int .i64 ((rd_T52 t101 x16_1).f1), .int .i64 0]) ?_ 2 _ rfl; (with_reducible repeat (first | refine blk_drewN ?_ _ | refine blk_drew ?_ | refine blk_alloc ?_ _)); refine blk_put (cs := #[.int .i64 ((rd_T52 t101 x16_1).f0), .int .i64 0, .int .i64 0]) ?_ 1 _ rfl; (with_reducible repeat (first | refine blk_drewN ?_ _ | refine blk_drew ?_ | refine blk_alloc ?_ _)); refine blk_put (cs := #[.int .i64 0, .int .i64 0, .int .i64 0]) ?_ 0 _ rfl; (with_reducible repeat (first | refine blk_drewN ?_ _ | refine blk_drew ?_ | refine blk_alloc ?_ _)); exact BK105.out) NB105_0.out (by simp)); replace HK := aM_ (KeepBut.trans (by repeat (first | (with_reducible first | exact HK.out | apply KeepBut.set_ | apply keep_drewN | apply keep_drew | apply keep_alloc | refine keep_far ?_ GW105.out _) | exact HK.out)) hk (.inl rfl)); replace HB := aM_ (hb); replace HI0 := aM_ (hi); (try clear hb); (try clear hk); (try clear hi))))
      go_roundg k1
      case measure => have := HK1.out; omega
      case rel => exact ⟨(wrap64 (x16_1 + 1)), (t107), (t108), veq_, H', ⟨by have := HK1.out; omega⟩, ⟨by (with_reducible repeat (first | apply kA_ | apply kN_ | apply kD_)); exact Kd.R_mono HO_14.out (fun _ hk => trivial)⟩, ⟨by repeat (first | (with_reducible first | exact HI0.out | apply IsS74.alloc | apply IsS74.drewN | apply IsS74.drew | apply IsS74.set_0 | apply IsS74.set_1 | refine IsS74.far ?_ NB0_105.out _) | exact HI0.out)⟩, ⟨by repeat (first | (with_reducible first | exact HK.out | apply KeepBut.set_ | apply keep_drewN | apply keep_drew | apply keep_alloc | refine keep_far ?_ GW105.out _) | exact HK.out)⟩, ⟨bI_ HB (IsS74.ge HI0.out)⟩⟩
    ·have c17b0 : ((Go.bits .and .i64 a1 (Go.bits .or .i64 (Go.bits .or .i64 (ji12) (ji14)) (ji16))) == (Go.bits .or .i64 (Go.bits .or .i64 (ji12) (ji14)) (ji16))) = false := beq_eq_false_iff_ne.mpr c17
     have c17b1 : ((Go.bits .and .i64 a1 (Go.bits .or .i64 (Go.bits .or .i64 (ji12) (ji14)) (ji16))) != (Go.bits .or .i64 (Go.bits .or .i64 (ji12) (ji14)) (ji16))) = true := bne_iff_ne.mpr c17
     have H' := aM_ H
     clear H
     obtain ⟨p104, q104, ad104, e104, hx104_0, hx104_1, hx104_2⟩ := atW_ (at_T52 (Kd.R_reads' HO_14.out).2.2 x16_1)
     cases e104
     go_wp2_with (first | ((with_reducible refine gate_dst (N := 8) rfl ?_); refine boxE_ (N := 8) #[.int .i64 0, .int .i64 0, .int .i64 0] 52 ?_; intro gb105 hg w28 hbox hb; replace HO_14 := aM_ (Kd.R_below (Kd.R_elderB (kr_ HO_14) gb105 (Nat.le_of_eq hg.symm)) hb); replace HB := aM_ (below_step (bI_ HB (IsS74.ge HI0.out)) hb); have BK105 := aM_ (hbox); have GW105 := aM_ ((by rw [hg]; exact (keep_size (w := w) (g := g) (row := none) (kp_ HK)) : w.heap.size ≤ gb105)); have GE105 := aM_ ((Nat.le_trans HW0.out (by rw [hg]; exact (keep_size (w := w) (g := g) (row := none) (kp_ HK)) : w.heap.size ≤ gb105) : w0.heap.size ≤ gb105)); replace HK := aM_ (KeepBut.trans (kp_ HK) (KeepBut.of_below hb g none) (.inl rfl)); have NB0_105 := aM_ ((by rw [hg]; exact Nat.ne_of_lt (IsS74.lt (show IsS74 w0 _ g x1000_1 x1001_1 from by repeat (first | (with_reducible first | exact HI0.out | apply IsS74.alloc | apply IsS74.drewN | apply IsS74.drew | apply IsS74.set_0 | apply IsS74.set_1) | exact HI0.out))) : g ≠ gb105)); have NB105_0 := aM_ ((by rw [hg]; exact Nat.ne_of_gt (IsS74.lt (show IsS74 w0 _ g x1000_1 x1001_1 from by repeat (first | (with_reducible first | exact HI0.out | apply IsS74.alloc | apply IsS74.drewN | apply IsS74.drew | apply IsS74.set_0 | apply IsS74.set_1) | exact HI0.out))) : gb105 ≠ g)); replace HI0 := aM_ (IsS74.below (by repeat (first | (with_reducible first | exact HI0.out | apply IsS74.alloc | apply IsS74.drewN | apply IsS74.drew | apply IsS74.set_0 | apply IsS74.set_1) | exact HI0.out)) hb); clear hb hbox hg; have hnb29 := NB105_0.out; have hnc29 := NB0_105.out; have hcz30_0 := bc_ BK105 0; have hcz30_1 := bc_ BK105 1; have hcz30_2 := bc_ BK105 2; have hfz30_0 := blk_frozen BK105.out 0; have hfz30_1 := blk_frozen BK105.out 1; have hfz30_2 := blk_frozen BK105.out 2))
     repeat (go_quiet (first | ((with_reducible refine gate_dst (N := 8) rfl ?_); refine boxE_ (N := 8) #[.int .i64 0, .int .i64 0, .int .i64 0] 52 ?_; intro gb105 hg w28 hbox hb; replace HO_14 := aM_ (Kd.R_below (Kd.R_elderB (kr_ HO_14) gb105 (Nat.le_of_eq hg.symm)) hb); replace HB := aM_ (below_step (bI_ HB (IsS74.ge HI0.out)) hb); have BK105 := aM_ (hbox); have GW105 := aM_ ((by rw [hg]; exact (keep_size (w := w) (g := g) (row := none) (kp_ HK)) : w.heap.size ≤ gb105)); have GE105 := aM_ ((Nat.le_trans HW0.out (by rw [hg]; exact (keep_size (w := w) (g := g) (row := none) (kp_ HK)) : w.heap.size ≤ gb105) : w0.heap.size ≤ gb105)); replace HK := aM_ (KeepBut.trans (kp_ HK) (KeepBut.of_below hb g none) (.inl rfl)); have NB0_105 := aM_ ((by rw [hg]; exact Nat.ne_of_lt (IsS74.lt (show IsS74 w0 _ g x1000_1 x1001_1 from by repeat (first | (with_reducible first | exact HI0.out | apply IsS74.alloc | apply IsS74.drewN | apply IsS74.drew | apply IsS74.set_0 | apply IsS74.set_1) | exact HI0.out))) : g ≠ gb105)); have NB105_0 := aM_ ((by rw [hg]; exact Nat.ne_of_gt (IsS74.lt (show IsS74 w0 _ g x1000_1 x1001_1 from by repeat (first | (with_reducible first | exact HI0.out | apply IsS74.alloc | apply IsS74.drewN | apply IsS74.drew | apply IsS74.set_0 | apply IsS74.set_1) | exact HI0.out))) : gb105 ≠ g)); replace HI0 := aM_ (IsS74.below (by repeat (first | (with_reducible first | exact HI0.out | apply IsS74.alloc | apply IsS74.drewN | apply IsS74.drew | apply IsS74.set_0 | apply IsS74.set_1) | exact HI0.out)) hb); clear hb hbox hg; have hnb29 := NB105_0.out; have hnc29 := NB0_105.out; have hcz30_0 := bc_ BK105 0; have hcz30_1 := bc_ BK105 1; have hcz30_2 := bc_ BK105 2; have hfz30_0 := blk_frozen BK105.out 0; have hfz30_1 := blk_frozen BK105.out 1; have hfz30_2 := blk_frozen BK105.out 2)); try go_wp2_with (first | ((with_reducible refine gate_dst (N := 8) rfl ?_); refine boxE_ (N := 8) #[.int .i64 0, .int .i64 0, .int .i64 0] 52 ?_; intro gb105 hg w28 hbox hb; replace HO_14 := aM_ (Kd.R_below (Kd.R_elderB (kr_ HO_14) gb105 (Nat.le_of_eq hg.symm)) hb); replace HB := aM_ (below_step (bI_ HB (IsS74.ge HI0.out)) hb); have BK105 := aM_ (hbox); have GW105 := aM_ ((by rw [hg]; exact (keep_size (w := w) (g := g) (row := none) (kp_ HK)) : w.heap.size ≤ gb105)); have GE105 := aM_ ((Nat.le_trans HW0.out (by rw [hg]; exact (keep_size (w := w) (g := g) (row := none) (kp_ HK)) : w.heap.size ≤ gb105) : w0.heap.size ≤ gb105)); replace HK := aM_ (KeepBut.trans (kp_ HK) (KeepBut.of_below hb g none) (.inl rfl)); have NB0_105 := aM_ ((by rw [hg]; exact Nat.ne_of_lt (IsS74.lt (show IsS74 w0 _ g x1000_1 x1001_1 from by repeat (first | (with_reducible first | exact HI0.out | apply IsS74.alloc | apply IsS74.drewN | apply IsS74.drew | apply IsS74.set_0 | apply IsS74.set_1) | exact HI0.out))) : g ≠ gb105)); have NB105_0 := aM_ ((by rw [hg]; exact Nat.ne_of_gt (IsS74.lt (show IsS74 w0 _ g x1000_1 x1001_1 from by repeat (first | (with_reducible first | exact HI0.out | apply IsS74.alloc | apply IsS74.drewN | apply IsS74.drew | apply IsS74.set_0 | apply IsS74.set_1) | exact HI0.out))) : gb105 ≠ g)); replace HI0 := aM_ (IsS74.below (by repeat (first | (with_reducible first | exact HI0.out | apply IsS74.alloc | apply IsS74.drewN | apply IsS74.drew | apply IsS74.set_0 | apply IsS74.set_1) | exact HI0.out)) hb); clear hb hbox hg; have hnb29 := NB105_0.out; have hnc29 := NB0_105.out; have hcz30_0 := bc_ BK105 0; have hcz30_1 := bc_ BK105 1; have hcz30_2 := bc_ BK105 2; have hfz30_0 := blk_frozen BK105.out 0; have hfz30_1 := blk_frozen BK105.out 1; have hfz30_2 := blk_frozen BK105.out 2)))
     go_roundg k1
     case measure => have := HK1.out; omega
     case rel => exact ⟨(wrap64 (x16_1 + 1)), (x1000_1), (x1001_1), veq_, H', ⟨by have := HK1.out; omega⟩, ⟨by (with_reducible repeat (first | apply kA_ | apply kN_ | apply kD_)); exact Kd.R_mono (Kd.R_far (p := ⟨gb105, 2, none⟩) (Kd.R_far (p := ⟨gb105, 1, none⟩) (Kd.R_far (p := ⟨gb105, 0, none⟩) (Kd.R_mono HO_14.out (fun k_ hk => (⟨hk, hk.2⟩ : _ ∧ k_ ≠ gb105))) (fun _ hk => hk.2) (.int .i64 ((rd_T52 t101 x16_1).f0))) (fun _ hk => hk.2) (.int .i64 ((rd_T52 t101 x16_1).f1))) (fun _ hk => hk.2) (.int .i64 ((rd_T52 t101 x16_1).f2))) (fun _ hk => trivial)⟩, ⟨by repeat (first | (with_reducible first | exact HI0.out | apply IsS74.alloc | apply IsS74.drewN | apply IsS74.drew | apply IsS74.set_0 | apply IsS74.set_1 | refine IsS74.far ?_ NB0_105.out _) | exact HI0.out)⟩, ⟨by repeat (first | (with_reducible first | exact HK.out | apply KeepBut.set_ | apply keep_drewN | apply keep_drew | apply keep_alloc | refine keep_far ?_ GW105.out _) | exact HK.out)⟩, ⟨bI_ HB (IsS74.ge HI0.out)⟩⟩
   ·simp only [Option.some.injEq, Prod.mk.injEq] at H
    obtain ⟨rfl, rfl, rfl⟩ := H
    go_wp2
    repeat (go_quiet (fail); try go_wp2)
    go_ret
    exact ⟨verr_, by repeat (first | (with_reducible first | exact HI0.out | apply IsS74.alloc | apply IsS74.drewN | apply IsS74.drew | apply IsS74.set_0 | apply IsS74.set_1) | exact HI0.out), bI_ HB (IsS74.ge HI0.out), kp_ HK⟩
end Go.Proofs.Yteaagaekdkolnaa.P

namespace Go.Proofs.Yteaagaekdkolnaa.P
open Go.RowKit Go.Proofs.YteaagaekdkolnaaW.PrintWords Go.Proofs.YteaagaekdkolnaaW.PrintLast Go.Proofs.YteaagaekdkolnaaW.PrintMore
attribute [local go_sem] max2_int min2_int max_two min_two max_three min_three max_four min_four   -- for this text's walks alone
set_option linter.unusedVariables false
set_option linter.unusedSimpArgs false
/-! ### impl_chi_extremeIn: function 54 -/
def impl_chi_extremeIn.l0 : Nat → Int → Int → Int → Int → (Nat → Int) → Option (Int × Int × (Nat → Int))
 | 0, _, _, _, _, _ => none
 | k + 1, x1, x5, x6, x1000, x1001 => if x6 < x1000 then (if 0 ≤ x6 then (if (Go.bits .and .i64 (shr .i64 x1 x6) 1) = 1 then ((impl_chi_inHull.f k x1000 x1001 (Go.bits .andNot .i64 x1 (shl .i64 1 x6)) x6).bind fun bt101 => (if bt101.1 = true then (impl_chi_extremeIn.l0 k x1 x5 (wrap64 (x6 + 1)) bt101.2.1 bt101.2.2) else (impl_chi_extremeIn.l0 k x1 (Go.bits .or .i64 x5 (shl .i64 1 x6)) (wrap64 (x6 + 1)) bt101.2.1 bt101.2.2))) else (impl_chi_extremeIn.l0 k x1 x5 (wrap64 (x6 + 1)) x1000 x1001)) else (none)) else (some (x5, x1000, x1001))
def impl_chi_extremeIn.f (k : Nat) (s0_0 : Int) (s0_1 : (Nat → Int)) (a1 : Int) : Option (Int × Int × (Nat → Int)) := impl_chi_extremeIn.l0 k a1 0 0 s0_0 s0_1
set_option maxHeartbeats 8000000 in
set_option maxRecDepth 100000 in
theorem impl_chi_extremeIn.calls (k : Nat) (g : Nat) (s0_0 : Int) (s0_1 : (Nat → Int)) (a1 : Int) (r1 : Int) (r2 : Int) (r3 : (Nat → Int)) (w0 w : World) (hI : IsS74 w0 w g s0_0 s0_1) (hB : Below w0.heap.size w0 w) (h : impl_chi_extremeIn.f k s0_0 s0_1 a1 = some (r1, r2, r3)) :
  Calls Try.prog 54 #[.pointer (some ⟨g, 0, none⟩), .int .i64 a1] w fun e w' => e = .returned (.int .i64 r1) ∧ IsS74 w0 w' g r2 r3 ∧ Below w0.heap.size w0 w' ∧ KeepBut w w' g none := by
 have HI0 := aM_ hI
 have HK := aM_ (KeepBut.refl w g none)
 have HL := aM_ hB.size
 clear hI
 have HW0 := aM_ hB.size
 have HB := aM_ hB
 clear hB
 have H : (impl_chi_extremeIn.l0 k a1 0 0 s0_0 s0_1) = some (r1, r2, r3) := h
 clear h
 have H' := aM_ H
 clear H
 go_enter Try.func54, Try.ntmps54
 go_wp2
 go_loopg [5, 6] k (fun kq v5 v6 w' => ∃ (x5_1 : Int) (x6_1 : Int) (x1000_1 : Int) (x1001_1 : (Nat → Int)), v5 = .int .i64 x5_1 ∧ v6 = .int .i64 x6_1 ∧ Aside0 (impl_chi_extremeIn.l0 kq a1 x5_1 x6_1 x1000_1 x1001_1 = some (r1, r2, r3)) ∧ Aside0 (kq ≤ k) ∧ Aside0 (IsS74 w0 w' g x1000_1 x1001_1) ∧ Aside0 (KeepBut w w' g none) ∧ Aside0 (Below w0.heap.size w0 w'))
 case atStart => exact ⟨(0), (0), (s0_0), (s0_1), veq_, veq_, H', ⟨Nat.le_refl _⟩, ⟨by repeat (first | (with_reducible first | exact HI0.out | apply IsS74.alloc | apply IsS74.drewN | apply IsS74.drew | apply IsS74.set_0 | apply IsS74.set_1) | exact HI0.out)⟩, ⟨kp_ HK⟩, ⟨bI_ HB (IsS74.ge HI0.out)⟩⟩
 case round =>
  clear H'
  obtain ⟨x5_1, x6_1, x1000_1, x1001_1, rfl, rfl, HA, HK1, HI0, HK, HB⟩ := hrel
  cases gk with
  | zero => exact absurd HA.out (by simp [impl_chi_extremeIn.l0])
  | succ k1 =>
   have H := HA.out
   clear HA
   simp only [impl_chi_extremeIn.l0] at H
   rcases ifd_ H with ⟨c3b0, H⟩ | ⟨c3b0, H⟩
   ·obtain ⟨c4, H⟩ := ifp_ H
    have c4b0 := eq_true c4
    have c4b1 := decide_eq_true c4
    clear c4
    obtain ⟨ji5, hji5⟩ : ∃ j_ : Int, (shr .i64 a1 x6_1) = j_ := ⟨_, rfl⟩
    replace H : (if (Go.bits .and .i64 (ji5) 1) = 1 then ((impl_chi_inHull.f k1 x1000_1 x1001_1 (Go.bits .andNot .i64 a1 (shl .i64 1 x6_1)) x6_1).bind fun bt101 => (if bt101.1 = true then (impl_chi_extremeIn.l0 k1 a1 x5_1 (wrap64 (x6_1 + 1)) bt101.2.1 bt101.2.2) else (impl_chi_extremeIn.l0 k1 a1 (Go.bits .or .i64 x5_1 (shl .i64 1 x6_1)) (wrap64 (x6_1 + 1)) bt101.2.1 bt101.2.2))) else (impl_chi_extremeIn.l0 k1 a1 x5_1 (wrap64 (x6_1 + 1)) x1000_1 x1001_1)) = some (r1, r2, r3) := by first | (rw [hji5] at H; exact H) | (simp only [hji5] at H ⊢; exact H)
    have hji5_ : (a1 / 2 ^ min x6_1.toNat 64) = ji5 := hji5
    have hji5z : x6_1 ≤ 64 → (a1 / 2 ^ x6_1.toNat) = ji5 := shr_small hji5
    rcases ifc_ H with ⟨c6, H⟩ | ⟨c6, H⟩
    ·have c6b0 : ((Go.bits .and .i64 (ji5) 1) == 1) = true := beq_iff_eq.mpr c6
     have c6b1 : ((Go.bits .and .i64 (ji5) 1) != 1) = false := bne_eq_false_iff_eq.mpr c6
     clear c6
     have c7b0 := eq_true (ode_ : 0 ≤ x6_1)
     obtain ⟨ji8, hji8⟩ : ∃ j_ : Int, (shl .i64 1 x6_1) = j_ := ⟨_, rfl⟩
     replace H : ((impl_chi_inHull.f k1 x1000_1 x1001_1 (Go.bits .andNot .i64 a1 (ji8)) x6_1).bind fun bt101 => (if bt101.1 = true then (impl_chi_extremeIn.l0 k1 a1 x5_1 (wrap64 (x6_1 + 1)) bt101.2.1 bt101.2.2) else (impl_chi_extremeIn.l0 k1 a1 (Go.bits .or .i64 x5_1 (ji8)) (wrap64 (x6_1 + 1)) bt101.2.1 bt101.2.2))) = some (r1, r2, r3) := by first | (rw [hji8] at H; exact H) | (simp only [hji8] at H ⊢; exact H)
     have hji8_ : (IntKind.i64.wrap (1 * 2 ^ min x6_1.toNat 64)) = ji8 := hji8
     have hji8z : x6_1 ≤ 64 → (IntKind.i64.wrap (1 * 2 ^ x6_1.toNat)) = ji8 := shl_small hji8
     have hji8u : (IntKind.i64.wrap (2 ^ min x6_1.toNat 64)) = ji8 := by have h_ := hji8_; rw [Int.one_mul] at h_; exact h_
     have hji8v : x6_1 ≤ 64 → (IntKind.i64.wrap (2 ^ x6_1.toNat)) = ji8 := fun hle_ => by have h_ := hji8z hle_; rw [Int.one_mul] at h_; exact h_
     have hji8y : (wrap64 (1 * 2 ^ min x6_1.toNat 64)) = ji8 := (i64_w _).symm.trans hji8_
     have hji8x : x6_1 ≤ 64 → (wrap64 (1 * 2 ^ x6_1.toNat)) = ji8 := fun h_ => (i64_w _).symm.trans (hji8z h_)
     replace H := oB_ H
     obtain ⟨⟨t101, t102, t103⟩, A90, H⟩ := H
     replace H : (if t101 = true then (impl_chi_extremeIn.l0 k1 a1 x5_1 (wrap64 (x6_1 + 1)) t102 t103) else (impl_chi_extremeIn.l0 k1 a1 (Go.bits .or .i64 x5_1 (ji8)) (wrap64 (x6_1 + 1)) t102 t103)) = some (r1, r2, r3) := H
     have A9 := aM_ A90
     clear A90
     by_cases c10 : t101 = true
     ·subst c10
      rw [if_pos rfl] at H
      have H' := aM_ H
      clear H
      obtain ⟨HGz11, hgz11⟩ := HI0.out
      have hcz11_0 := cellS74_0 HGz11
      have hfz11_0 := blk_frozen HGz11 0
      have hfz11_1 := blk_frozen HGz11 1
      clear HGz11 hgz11
      go_wp2_with (first | (go_at_call 63; (with_reducible refine (impl_chi_inHull.calls k1 g x1000_1 x1001_1 (Go.bits .andNot .i64 a1 (ji8)) x6_1 true t102 t103 w0 _ ?side1 ?side2 A9.out).mono ?_); (case side1 => repeat (first | (with_reducible first | exact HI0.out | apply IsS74.alloc | apply IsS74.drewN | apply IsS74.drew | apply IsS74.set_0 | apply IsS74.set_1) | exact HI0.out)); (case side2 => repeat (first | (with_reducible first | exact HB.out | apply bA_ | apply bN_ | apply bD_ | refine below_set ?_ (IsS74.ge HI0.out)) | exact HB.out)); rintro e w12 ⟨rfl, hi, hb, hk⟩; replace HK := aM_ (KeepBut.trans (kp_ HK) hk (.inl rfl)); replace HB := aM_ (hb); replace HI0 := aM_ (hi); (try clear hb); (try clear hk); (try clear hi)))
      go_roundg k1
      case measure => have := HK1.out; omega
      case rel => exact ⟨(x5_1), (wrap64 (x6_1 + 1)), (t102), (t103), veq_, veq_, H', ⟨by have := HK1.out; omega⟩, ⟨by repeat (first | (with_reducible first | exact HI0.out | apply IsS74.alloc | apply IsS74.drewN | apply IsS74.drew | apply IsS74.set_0 | apply IsS74.set_1) | exact HI0.out)⟩, ⟨kp_ HK⟩, ⟨bI_ HB (IsS74.ge HI0.out)⟩⟩
     ·replace c10 := Bool.eq_false_iff.mpr c10
      subst c10
      rw [if_neg (show ¬ (false = true) by decide)] at H
      have c13b0 := eq_true (ode_ : 0 ≤ x6_1)
      have H' := aM_ H
      clear H
      obtain ⟨HGz15, hgz15⟩ := HI0.out
      have hcz15_0 := cellS74_0 HGz15
      have hfz15_0 := blk_frozen HGz15 0
      have hfz15_1 := blk_frozen HGz15 1
      clear HGz15 hgz15
      go_wp2_with (first | (go_at_call 63; (with_reducible refine (impl_chi_inHull.calls k1 g x1000_1 x1001_1 (Go.bits .andNot .i64 a1 (ji8)) x6_1 false t102 t103 w0 _ ?side1 ?side2 A9.out).mono ?_); (case side1 => repeat (first | (with_reducible first | exact HI0.out | apply IsS74.alloc | apply IsS74.drewN | apply IsS74.drew | apply IsS74.set_0 | apply IsS74.set_1) | exact HI0.out)); (case side2 => repeat (first | (with_reducible first | exact HB.out | apply bA_ | apply bN_ | apply bD_ | refine below_set ?_ (IsS74.ge HI0.out)) | exact HB.out)); rintro e w16 ⟨rfl, hi, hb, hk⟩; replace HK := aM_ (KeepBut.trans (kp_ HK) hk (.inl rfl)); replace HB := aM_ (hb); replace HI0 := aM_ (hi); (try clear hb); (try clear hk); (try clear hi)))
      go_roundg k1
      case measure => have := HK1.out; omega
      case rel => exact ⟨(Go.bits .or .i64 x5_1 (ji8)), (wrap64 (x6_1 + 1)), (t102), (t103), (by first | rfl | (simp; done) | (simp only [← hji8] <;> (first | rfl | simp)) | (simp [*]; done)), veq_, H', ⟨by have := HK1.out; omega⟩, ⟨by repeat (first | (with_reducible first | exact HI0.out | apply IsS74.alloc | apply IsS74.drewN | apply IsS74.drew | apply IsS74.set_0 | apply IsS74.set_1) | exact HI0.out)⟩, ⟨kp_ HK⟩, ⟨bI_ HB (IsS74.ge HI0.out)⟩⟩
    ·have c6b0 : ((Go.bits .and .i64 (ji5) 1) == 1) = false := beq_eq_false_iff_ne.mpr c6
     have c6b1 : ((Go.bits .and .i64 (ji5) 1) != 1) = true := bne_iff_ne.mpr c6
     have H' := aM_ H
     clear H
     obtain ⟨HGz17, hgz17⟩ := HI0.out
     have hcz17_0 := cellS74_0 HGz17
     have hfz17_0 := blk_frozen HGz17 0
     have hfz17_1 := blk_frozen HGz17 1
     clear HGz17 hgz17
     go_wp2
     go_roundg k1
     case measure => have := HK1.out; omega
     case rel => exact ⟨(x5_1), (wrap64 (x6_1 + 1)), (x1000_1), (x1001_1), veq_, veq_, H', ⟨by have := HK1.out; omega⟩, ⟨by repeat (first | (with_reducible first | exact HI0.out | apply IsS74.alloc | apply IsS74.drewN | apply IsS74.drew | apply IsS74.set_0 | apply IsS74.set_1) | exact HI0.out)⟩, ⟨kp_ HK⟩, ⟨bI_ HB (IsS74.ge HI0.out)⟩⟩
   ·simp only [Option.some.injEq, Prod.mk.injEq] at H
    obtain ⟨rfl, rfl, rfl⟩ := H
    obtain ⟨HGz18, hgz18⟩ := HI0.out
    have hcz18_0 := cellS74_0 HGz18
    have hfz18_0 := blk_frozen HGz18 0
    have hfz18_1 := blk_frozen HGz18 1
    clear HGz18 hgz18
    go_wp2
    go_ret
    exact ⟨verr_, by repeat (first | (with_reducible first | exact HI0.out | apply IsS74.alloc | apply IsS74.drewN | apply IsS74.drew | apply IsS74.set_0 | apply IsS74.set_1) | exact HI0.out), bI_ HB (IsS74.ge HI0.out), kp_ HK⟩
end Go.Proofs.Yteaagaekdkolnaa.P

namespace Go.Proofs.Yteaagaekdkolnaa.P
open Go.RowKit Go.Proofs.YteaagaekdkolnaaW.PrintWords Go.Proofs.YteaagaekdkolnaaW.PrintLast Go.Proofs.YteaagaekdkolnaaW.PrintMore
attribute [local go_sem] max2_int min2_int max_two min_two max_three min_three max_four min_four   -- for this text's walks alone
set_option linter.unusedVariables false
set_option linter.unusedSimpArgs false
/-! ### impl_fullSet: function 55 -/
def impl_fullSet.f (a0 : Int) : Option (Int) := if 0 ≤ a0 then (some (wrap64 ((shl .i64 1 a0) - 1))) else (none)
set_option maxHeartbeats 8000000 in
set_option maxRecDepth 100000 in
theorem impl_fullSet.calls (a0 : Int) (r : Int) (w : World) (h : impl_fullSet.f a0 = some r) :
  Calls Try.prog 55 #[.int .i64 a0] w fun e w' => e = .returned (.int .i64 r) ∧ Drawn0 w w' := by
 have H : (if 0 ≤ a0 then (some (wrap64 ((shl .i64 1 a0) - 1))) else (none)) = some r := h
 clear h
 obtain ⟨c2, H⟩ := ifp_ H
 have c2b0 := eq_true c2
 have c2b1 := decide_eq_true c2
 clear c2
 obtain ⟨ji3, hji3⟩ : ∃ j_ : Int, (shl .i64 1 a0) = j_ := ⟨_, rfl⟩
 replace H : (some (wrap64 ((ji3) - 1))) = some r := by first | (rw [hji3] at H; exact H) | (simp only [hji3] at H ⊢; exact H)
 have hji3_ : (IntKind.i64.wrap (1 * 2 ^ min a0.toNat 64)) = ji3 := hji3
 have hji3z : a0 ≤ 64 → (IntKind.i64.wrap (1 * 2 ^ a0.toNat)) = ji3 := shl_small hji3
 have hji3u : (IntKind.i64.wrap (2 ^ min a0.toNat 64)) = ji3 := by have h_ := hji3_; rw [Int.one_mul] at h_; exact h_
 have hji3v : a0 ≤ 64 → (IntKind.i64.wrap (2 ^ a0.toNat)) = ji3 := fun hle_ => by have h_ := hji3z hle_; rw [Int.one_mul] at h_; exact h_
 have hji3y : (wrap64 (1 * 2 ^ min a0.toNat 64)) = ji3 := (i64_w _).symm.trans hji3_
 have hji3x : a0 ≤ 64 → (wrap64 (1 * 2 ^ a0.toNat)) = ji3 := fun h_ => (i64_w _).symm.trans (hji3z h_)
 obtain rfl := Option.some.inj H
 go_enter Try.func55, Try.ntmps55
 go_wp2
 go_ret
 exact ⟨by first | rfl | (simp; done) | (simp only [← hji3] <;> (first | rfl | simp)) | (simp [*]; done), by repeat (first | exact Drawn0.refl _ | apply Drawn0.step)⟩
end Go.Proofs.Yteaagaekdkolnaa.P

namespace Go.Proofs.Yteaagaekdkolnaa.P
open Go.RowKit Go.Proofs.YteaagaekdkolnaaW.PrintWords Go.Proofs.YteaagaekdkolnaaW.PrintLast Go.Proofs.YteaagaekdkolnaaW.PrintMore
attribute [local go_sem] max2_int min2_int max_two min_two max_three min_three max_four min_four   -- for this text's walks alone
set_option linter.unusedVariables false
set_option linter.unusedSimpArgs false
/-! ### impl_chi_left: function 56 -/
def leftN (T : Nat → Int) (i j : Int) (n : Nat) : Nat := (List.range n).countP fun m => T (i.toNat * 49 + j.toNat * 7 + m) == 1
def impl_chi_left.f (s0_0 : Int) (s0_1 : Nat → Int) (a1 a2 : Int) : Option (Int × Int × (Nat → Int)) := if (0 ≤ a1 ∧ a1 < 7) ∧ (0 ≤ a2 ∧ a2 < 7) ∧ 0 ≤ s0_0 ∧ s0_0 ≤ 7 then some ((leftN s0_1 a1 a2 s0_0.toNat : Nat), s0_0, s0_1) else none
set_option maxHeartbeats 8000000 in
set_option maxRecDepth 100000 in
theorem impl_chi_left.calls (g : Nat) (s0_0 : Int) (s0_1 : Nat → Int) (a1 a2 : Int) (r1 : Int) (r2 : Int) (r3 : Nat → Int) (w0 w : World) (hI : IsS74 w0 w g s0_0 s0_1) (hB : Below w0.heap.size w0 w) (h : impl_chi_left.f s0_0 s0_1 a1 a2 = some (r1, r2, r3)) :
  Calls Try.prog 56 #[.pointer (some ⟨g, 0, none⟩), .int .i64 a1, .int .i64 a2] w fun e w' => e = .returned (.int .i64 r1) ∧ IsS74 w0 w' g r2 r3 ∧ Below w0.heap.size w0 w' ∧ KeepBut w w' g none := by
 unfold impl_chi_left.f at h
 by_cases hc : (0 ≤ a1 ∧ a1 < 7) ∧ (0 ≤ a2 ∧ a2 < 7) ∧ 0 ≤ s0_0 ∧ s0_0 ≤ 7
 case neg => rw [if_neg hc] at h; cases h
 rw [if_pos hc] at h
 simp only [Option.some.injEq, Prod.mk.injEq] at h
 obtain ⟨rfl, rfl, rfl⟩ := h
 obtain ⟨hi, hj, hn⟩ := hc
 suffices hs : Calls Try.prog 56 #[.pointer (some ⟨g, 0, none⟩), .int .i64 a1, .int .i64 a2] w fun e w' => e = .returned (.int .i64 (leftN s0_1 a1 a2 s0_0.toNat : Nat)) ∧ w' = w by
  refine hs.mono ?_
  rintro e w' ⟨he, rfl⟩
  exact ⟨he, hI, hB, KeepBut.refl _ g none⟩
 have HT := aM_ (chi_at7 hI)
 have hx0 := cellS74_0 hI.1
 have I58 := chi_ix58 g a1 hi
 have I57 := chi_ix57 g a2 hj
 have HI := aM_ hi
 have HJ := aM_ hj
 have HN := aM_ hn
 clear hI hB hi hj hn
 go_enter Try.func56, Try.ntmps56
 go_wp2
 go_loopg [7, 8] 7 (fun gg v7 v8 w' => ∃ (x : Int) (ix : Nat), v8 = .int .i64 x ∧ v7 = .int .i64 (leftN s0_1 a1 a2 ix : Nat) ∧ Aside0 (x = (ix : Int)) ∧ Aside0 ((ix : Int) ≤ s0_0) ∧ Aside0 (gg + ix = 7) ∧ w' = w)
 case atStart => exact ⟨0, 0, rfl, rfl, ⟨rfl⟩, ⟨by have := HN.out; omega⟩, ⟨rfl⟩, rfl⟩
 case round =>
  obtain ⟨x, ix, rfl, rfl, HX, HL, HG, rfl⟩ := hrel
  by_cases c : x < s0_0
  ·have c0 : decide (x < s0_0) = true := decide_eq_true c
   have hix : 0 ≤ x ∧ x < 7 := by have := HX.out; have := HN.out; omega
   have I56 := chi_ix56 g x hix
   have hcell := HT.out a1 a2 x HI.out HJ.out hix
   have HS := aM_ (show leftN s0_1 a1 a2 (ix + 1) = leftN s0_1 a1 a2 ix + if s0_1 (a1.toNat * 49 + a2.toNat * 7 + ix) == 1 then 1 else 0 by
    unfold leftN
    rw [List.range_succ, List.countP_append, List.countP_cons, List.countP_nil]; simp)
   have HLE := aM_ (show leftN s0_1 a1 a2 ix ≤ ix by unfold leftN; exact Nat.le_trans List.countP_le_length (by simp))
   have HXN := aM_ (show x.toNat = ix by have := HX.out; omega)
   have HC := aM_ c
   obtain ⟨v, hv⟩ : ∃ v, s0_1 (a1.toNat * 49 + a2.toNat * 7 + x.toNat) = v := ⟨_, rfl⟩
   rw [hv] at hcell
   have HV := aM_ (show s0_1 (a1.toNat * 49 + a2.toNat * 7 + ix) = v by rw [← HXN.out]; exact hv)
   clear hix hv c
   by_cases cv : v = 1
   ·have cv0 : decide (v = 1) = true := decide_eq_true cv
    have cv1 : (v == 1) = true := by rw [cv]; rfl
    have HW := aM_ (show leftN s0_1 a1 a2 (ix + 1) = leftN s0_1 a1 a2 ix + 1 by rw [HS.out, HV.out, cv1]; rfl)
    clear cv
    go_wp2
    go_roundg (gk - 1)
    case measure => have := HG.out; have := HX.out; have := HC.out; have := HN.out; omega
    case rel => exact ⟨wrap64 (x + 1), ix + 1, by first | rfl | (simp; done), by rw [HW.out]; first | rfl | (have := HLE.out; have := HX.out; have := HC.out; have := HN.out; rw [show wrap64 ((leftN s0_1 a1 a2 ix : Int) + 1) = ((leftN s0_1 a1 a2 ix + 1 : Nat) : Int) by unfold wrap64; omega]), ⟨by have := HX.out; have := HC.out; have := HN.out; unfold wrap64; omega⟩, ⟨by have := HX.out; have := HC.out; omega⟩, ⟨by have := HG.out; have := HX.out; have := HC.out; have := HN.out; omega⟩, rfl⟩
   ·have cv0 : decide (v = 1) = false := decide_eq_false cv
    have cv1 : (v == 1) = false := by rw [beq_eq_false_iff_ne]; exact cv
    have HW := aM_ (show leftN s0_1 a1 a2 (ix + 1) = leftN s0_1 a1 a2 ix by rw [HS.out, HV.out, cv1]; rfl)
    clear cv
    go_wp2
    go_roundg (gk - 1)
    case measure => have := HG.out; have := HX.out; have := HC.out; have := HN.out; omega
    case rel => exact ⟨wrap64 (x + 1), ix + 1, by first | rfl | (simp; done), by rw [HW.out], ⟨by have := HX.out; have := HC.out; have := HN.out; unfold wrap64; omega⟩, ⟨by have := HX.out; have := HC.out; omega⟩, ⟨by have := HG.out; have := HX.out; have := HC.out; have := HN.out; omega⟩, rfl⟩
  ·have c0 : decide (x < s0_0) = false := decide_eq_false c
   have HE := aM_ (show ix = s0_0.toNat by have := HX.out; have := HL.out; omega)
   clear c
   go_wp2
   go_ret
   exact ⟨by first | (rw [HE.out]; rfl) | rfl, rfl⟩
end Go.Proofs.Yteaagaekdkolnaa.P

