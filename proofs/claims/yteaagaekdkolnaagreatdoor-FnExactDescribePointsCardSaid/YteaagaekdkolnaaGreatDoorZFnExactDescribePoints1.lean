/- A part of the proof of FnExactDescribePoints: printed contracts and plain laws, joined by a program of this session. -/
import Derived.Test.YteaagaekdkolnaaGreatDoorZFnExactDescribePoints0
import Derived.Test.YteaagaekdkolnaaGreatDoorProg
import Derived.Below
import Derived.Deep.Draws
import Derived.Deep.AppendLies
import Derived.Maps.AppendAt
import Derived.OwnWalk
import Derived.Laws.BytesArg
import Derived.Laws.MakeOwn
import Derived.Laws.OwnMore
import Derived.Deep.OwnRows
import Derived.Tactics
import Derived.Lib.ConvBytes
import Derived.Laws.Slices
import Derived.WalkKit
import Derived.KernelRfl
import Derived.RowKit3
import Derived.Deep.LoopGhost
import Derived.Deep.QuietTactic
import Derived.BigQuiet
import Derived.WideLaws
import Derived.Deep.DeepCutAuto
import Derived.Deep.CutBlock
import Derived.Deep.RegionHeld3
import Derived.Laws.Rows
import Derived.Lib.AppendStr
import Derived.ArgAppend
import Derived.Laws.IdiomCopy
import Derived.OrdersHeld
import Derived.Laws.BitsLemmas
import Derived.RowKit
import Derived.Shelf.Abstract
namespace Go.Proofs.YteaagaekdkolnaaGreatDoor.P
open Go.RowKit Go.Proofs.YteaagaekdkolnaaGreatDoorW.PrintWords Go.Proofs.YteaagaekdkolnaaGreatDoorW.PrintLast Go.Proofs.YteaagaekdkolnaaGreatDoorW.PrintMore
theorem aM_ {p : Prop} (h : p) : Aside0 p := ⟨h⟩
theorem oB_ {α β : Type} {o : Option α} {f : α → Option β} {b : β} (h : o.bind f = some b) : ∃ a, o = some a ∧ f a = some b := Option.bind_eq_some_iff.mp h
theorem kA_ : type_of% @Kd.R_alloc := @Kd.R_alloc
theorem kN_ : type_of% @Kd.R_drewN := @Kd.R_drewN
theorem kD_ : type_of% @Kd.R_drew := @Kd.R_drew
theorem bA_ : type_of% @below_alloc := @below_alloc
theorem bN_ : type_of% @pw_below_drewN := @pw_below_drewN
theorem bD_ : type_of% @below_drew1 := @below_drew1
attribute [local go_sem] max2_int min2_int max_two min_two max_three min_three max_four min_four   -- for this text's walks alone
set_option linter.unusedVariables false
set_option linter.unusedSimpArgs false
def errW : Option Int → Value
 | none => .nilIface
 | some c => .iface 0 (.int .i64 c)
theorem errW_none : errW none = .nilIface := rfl
theorem errW_some (c : Int) : errW (some c) = .iface 0 (.int .i64 c) := rfl
theorem info3 : (Tryz.prog.info? 3).map (fun i => (i.zero, i.size, i.bytes)) = some (some (.int .i64 0), 1, 8) := by kernel_rfl
theorem info34 : (Tryz.prog.info? 34).map (fun i => (i.zero, i.size, i.bytes)) = some (some (.agg #[(.int .i64 0), (.int .i64 0)]), 2, 16) := by kernel_rfl
theorem info59 : (Tryz.prog.info? 59).map (fun i => (i.zero, i.size, i.bytes)) = some (some (.agg #[(.int .i64 0), (.int .i64 0), (.int .i64 0)]), 3, 24) := by kernel_rfl
theorem info62 : (Tryz.prog.info? 62).map (fun i => (i.zero, i.size, i.bytes)) = some (some (.agg #[(.int .i64 0), (.int .i64 0), (.int .i64 0), (.int .i64 0)]), 4, 32) := by kernel_rfl
-- the values' own types
/-! #### struct type 36 -/
structure S36 where
 f0 : Int
 f1 : Int
def z36 : S36 := ⟨(0 : Int), (0 : Int)⟩
def k36 : Kd S36 := Kd.iso (Kd.pair (Kd.int .i64) (Kd.int .i64)) (fun x : S36 => (x.f0, x.f1))
theorem k36_open {w : World} {x : S36} {cs : List Value} (h : k36.K w x cs) : cs = [.int .i64 x.f0, .int .i64 x.f1] := by
 obtain ⟨_, _, rfl, rfl, rfl⟩ := h
 exact rfl
def rd_T36 (xs : List S36) (i : Int) : S36 := xs.getD i.toNat z36
theorem at_T36 {w : World} {A : Option Addr} {n : Nat} {xs : List S36} (h : Kd.C k36 w A n xs) (i : Int) (h0 : 0 ≤ i) (h1 : i < n) : ∃ ad , A = some ad ∧ w.cell? (ad.add (i.toNat * 2)) = some (.int .i64 (rd_T36 xs i).f0) ∧ w.cell? ⟨(ad.add (i.toNat * 2)).block, (ad.add (i.toNat * 2)).off + 1, none⟩ = some (.int .i64 (rd_T36 xs i).f1) := by
 obtain ⟨ad, c, e, _, hK, hc0⟩ := Kd.C_get h z36 i h0 h1
 have hc : ∀ j u, c[j]? = some u → w.cell? (ad.add (i.toNat * 2 + j)) = some u := hc0
 obtain rfl := k36_open hK
 exact ⟨ad, e, hc 0 _ rfl, by rw [← add_field _ _ 1 (by omega)]; exact hc 1 _ rfl⟩
/-! #### struct type 34 -/
structure S34 where
 f0 : Int
 f1 : Int
def z34 : S34 := ⟨(0 : Int), (0 : Int)⟩
def k34 : Kd S34 := Kd.iso (Kd.pair (Kd.int .i64) (Kd.int .i64)) (fun x : S34 => (x.f0, x.f1))
theorem k34_open {w : World} {x : S34} {cs : List Value} (h : k34.K w x cs) : cs = [.int .i64 x.f0, .int .i64 x.f1] := by
 obtain ⟨_, _, rfl, rfl, rfl⟩ := h
 exact rfl
theorem k34_openM {w : World} {base : Nat} {ok : Nat → Prop} {x : S34} {cs : List Value} (h : k34.M w base ok x cs) : cs = [.int .i64 x.f0, .int .i64 x.f1] := by
 obtain ⟨_, _, rfl, rfl, rfl⟩ := h
 exact rfl
theorem k34_mkM (w : World) (base : Nat) (ok : Nat → Prop) (x : S34)  : k34.M w base ok x [.int .i64 x.f0, .int .i64 x.f1] := ⟨[.int .i64 x.f0], [.int .i64 x.f1], rfl, rfl, rfl⟩
def rd_T34 (xs : List S34) (i : Int) : S34 := xs.getD i.toNat z34
theorem at_T34 {w : World} {A : Option Addr} {n : Nat} {xs : List S34} (h : Kd.C k34 w A n xs) (i : Int) (h0 : 0 ≤ i) (h1 : i < n) : ∃ ad , A = some ad ∧ w.cell? (ad.add (i.toNat * 2)) = some (.int .i64 (rd_T34 xs i).f0) ∧ w.cell? ⟨(ad.add (i.toNat * 2)).block, (ad.add (i.toNat * 2)).off + 1, none⟩ = some (.int .i64 (rd_T34 xs i).f1) := by
 obtain ⟨ad, c, e, _, hK, hc0⟩ := Kd.C_get h z34 i h0 h1
 have hc : ∀ j u, c[j]? = some u → w.cell? (ad.add (i.toNat * 2 + j)) = some u := hc0
 obtain rfl := k34_open hK
 exact ⟨ad, e, hc 0 _ rfl, by rw [← add_field _ _ 1 (by omega)]; exact hc 1 _ rfl⟩
/-! #### struct type 59 -/
structure S59 where
 f0 : Int
 f1 : Int
 f2 : Int
def z59 : S59 := ⟨(0 : Int), (0 : Int), (0 : Int)⟩
def k59 : Kd S59 := Kd.iso (Kd.pair (Kd.int .i64) (Kd.pair (Kd.int .i64) (Kd.int .i64))) (fun x : S59 => (x.f0, x.f1, x.f2))
theorem k59_open {w : World} {x : S59} {cs : List Value} (h : k59.K w x cs) : cs = [.int .i64 x.f0, .int .i64 x.f1, .int .i64 x.f2] := by
 obtain ⟨_, _, rfl, rfl, ⟨_, _, rfl, rfl, rfl⟩⟩ := h
 exact rfl
theorem k59_mkM (w : World) (base : Nat) (ok : Nat → Prop) (x : S59)  : k59.M w base ok x [.int .i64 x.f0, .int .i64 x.f1, .int .i64 x.f2] := ⟨[.int .i64 x.f0], [.int .i64 x.f1, .int .i64 x.f2], rfl, rfl, ⟨[.int .i64 x.f1], [.int .i64 x.f2], rfl, rfl, rfl⟩⟩
def rd_T59 (xs : List S59) (i : Int) : S59 := xs.getD i.toNat z59
theorem at_T59 {w : World} {A : Option Addr} {n : Nat} {xs : List S59} (h : Kd.C k59 w A n xs) (i : Int) (h0 : 0 ≤ i) (h1 : i < n) : ∃ ad , A = some ad ∧ w.cell? (ad.add (i.toNat * 3)) = some (.int .i64 (rd_T59 xs i).f0) ∧ w.cell? ⟨(ad.add (i.toNat * 3)).block, (ad.add (i.toNat * 3)).off + 1, none⟩ = some (.int .i64 (rd_T59 xs i).f1) ∧ w.cell? ⟨(ad.add (i.toNat * 3)).block, (ad.add (i.toNat * 3)).off + 2, none⟩ = some (.int .i64 (rd_T59 xs i).f2) := by
 obtain ⟨ad, c, e, _, hK, hc0⟩ := Kd.C_get h z59 i h0 h1
 have hc : ∀ j u, c[j]? = some u → w.cell? (ad.add (i.toNat * 3 + j)) = some u := hc0
 obtain rfl := k59_open hK
 exact ⟨ad, e, hc 0 _ rfl, by rw [← add_field _ _ 1 (by omega)]; exact hc 1 _ rfl, by rw [← add_field _ _ 2 (by omega)]; exact hc 2 _ rfl⟩
/-! #### struct type 45 -/
structure S45 where
 f0 : Int
 f1 : ByteArray
/-! #### struct type 62 -/
structure S62 where
 f0 : Int
 f1 : Int
 f2 : Int
 f3 : Int
def z62 : S62 := ⟨(0 : Int), (0 : Int), (0 : Int), (0 : Int)⟩
def k62 : Kd S62 := Kd.iso (Kd.pair (Kd.int .i64) (Kd.pair (Kd.int .i64) (Kd.pair (Kd.int .i64) (Kd.int .i64)))) (fun x : S62 => (x.f0, x.f1, x.f2, x.f3))
theorem k62_open {w : World} {x : S62} {cs : List Value} (h : k62.K w x cs) : cs = [.int .i64 x.f0, .int .i64 x.f1, .int .i64 x.f2, .int .i64 x.f3] := by
 obtain ⟨_, _, rfl, rfl, ⟨_, _, rfl, rfl, ⟨_, _, rfl, rfl, rfl⟩⟩⟩ := h
 exact rfl
theorem k62_mkM (w : World) (base : Nat) (ok : Nat → Prop) (x : S62)  : k62.M w base ok x [.int .i64 x.f0, .int .i64 x.f1, .int .i64 x.f2, .int .i64 x.f3] := ⟨[.int .i64 x.f0], [.int .i64 x.f1, .int .i64 x.f2, .int .i64 x.f3], rfl, rfl, ⟨[.int .i64 x.f1], [.int .i64 x.f2, .int .i64 x.f3], rfl, rfl, ⟨[.int .i64 x.f2], [.int .i64 x.f3], rfl, rfl, rfl⟩⟩⟩
def rd_T62 (xs : List S62) (i : Int) : S62 := xs.getD i.toNat z62
theorem at_T62 {w : World} {A : Option Addr} {n : Nat} {xs : List S62} (h : Kd.C k62 w A n xs) (i : Int) (h0 : 0 ≤ i) (h1 : i < n) : ∃ ad , A = some ad ∧ w.cell? (ad.add (i.toNat * 4)) = some (.int .i64 (rd_T62 xs i).f0) ∧ w.cell? ⟨(ad.add (i.toNat * 4)).block, (ad.add (i.toNat * 4)).off + 1, none⟩ = some (.int .i64 (rd_T62 xs i).f1) ∧ w.cell? ⟨(ad.add (i.toNat * 4)).block, (ad.add (i.toNat * 4)).off + 2, none⟩ = some (.int .i64 (rd_T62 xs i).f2) ∧ w.cell? ⟨(ad.add (i.toNat * 4)).block, (ad.add (i.toNat * 4)).off + 3, none⟩ = some (.int .i64 (rd_T62 xs i).f3) := by
 obtain ⟨ad, c, e, _, hK, hc0⟩ := Kd.C_get h z62 i h0 h1
 have hc : ∀ j u, c[j]? = some u → w.cell? (ad.add (i.toNat * 4 + j)) = some u := hc0
 obtain rfl := k62_open hK
 exact ⟨ad, e, hc 0 _ rfl, by rw [← add_field _ _ 1 (by omega)]; exact hc 1 _ rfl, by rw [← add_field _ _ 2 (by omega)]; exact hc 2 _ rfl, by rw [← add_field _ _ 3 (by omega)]; exact hc 3 _ rfl⟩
/-! #### a region's steps by a plan -/
def bm (n b : Nat) : Array Bool := ((List.range n).map (fun i => b.testBit i)).toArray
section plan
variable {P : Program} {md : Region.Mode} {ops : Array Oper} {Q : Exit → Act → World → Prop} {S : World → Prop} {ds : List Nat} {n : Nat}
def wpPlan (_pl : List (Nat × Nat × Nat × Nat)) (P : Program) (md : Region.Mode) (ops : Array Oper) (Q : Exit → Act → World → Prop) (S : World → Prop) (ds : List Nat) (fuel : Nat) (l : Array Bool) (a : Act) (w : World) : Prop := wpAnyLast P md ops Q S ds fuel l a w
theorem plan_ (pl : List (Nat × Nat × Nat × Nat)) {fuel : Nat} {l : Array Bool} {a : Act} {w : World} (h : wpPlan pl P md ops Q S ds fuel l a w) : wpAnyLast P md ops Q S ds fuel l a w := h
theorem planEnd_ {fuel : Nat} {l : Array Bool} {a : Act} {w : World} (h : wpAnyLast P md ops Q S ds fuel l a w) : wpPlan [] P md ops Q S ds fuel l a w := h
theorem planV_ {i N b b' : Nat} {pl : List (Nat × Nat × Nat × Nat)} {oi : Oper} {fuel : Nat} {a : Act} {w : World} (v : Value) (a' : Act) (hi : ops[i]? = some oi) (hN : oi.dst = some N) (hc : anyB md ops (bm n b) (bm n b') i = true)
  (hQ : ∀ c a w, Q (.panic c) (a.put oi.dst v) w → Q (.panic c) a w) (hy : Yields P ops oi v a) (ha : a.put (some N) v = a')
  (h : wpPlan pl P md ops Q S ds fuel (bm n b') a' w) : wpPlan ((0, i, N, b') :: pl) P md ops Q S ds (fuel + 1) (bm n b) a w := pure_ _ hi hN hc hQ hy ha h
theorem planT_ {i N b b' : Nat} {pl : List (Nat × Nat × Nat × Nat)} {oi : Oper} {fuel : Nat} {a : Act} {w : World} (v : Value) (a' : Act) (hi : ops[i]? = some oi) (hN : oi.dst = some N) (hc : takeB md ops ds (bm n b) (bm n b') i = true)
  (hQ : ∀ c a w, Q (.panic c) (a.put oi.dst v) w → Q (.panic c) a w) (hy : YieldsIf P ops S oi v a) (hS : S w) (ha : a.put (some N) v = a')
  (h : wpPlan pl P md ops Q S ds fuel (bm n b') a' w) : wpPlan ((2, i, N, b') :: pl) P md ops Q S ds (fuel + 1) (bm n b) a w := take_ _ hi hN hc hQ hy hS ha h
end plan
def chiC (n : Int) (T : Nat → Int) : Array Value := #[.int .i64 n] ++ Array.ofFn fun m : Fin 343 => Value.int .i64 (T m.val)
/-! #### short words: what every walk says again and again; a side that is not written is proved by the tactics that stand with it -/
theorem veq_ {p : Prop} (h : p := by first | rfl | (simp; done) | (simp [*]; done)) : p := h
theorem verr_ {p : Prop} (h : p := by first | rfl | (simp [errW_none, errW_some] <;> rfl) | (simp [*, errW_none, errW_some] <;> rfl)) : p := h
theorem ode_ {p : Prop} [Decidable p] (h : decide p = true := by first | (with_reducible assumption) | assumption) : p := of_decide_eq_true h
theorem le_ {A B : Prop} (H : Aside0 A) (k : A → B := by intro h_; first | omega | exact Nat.le_refl _) : B := k H.out
theorem bB_ {A B : Prop} (H : Aside0 A) (k : A → B := by intro h_; repeat (first | (with_reducible first | exact h_ | apply bA_ | apply bN_ | apply bD_ | refine below_set ?_ (Aside0.out (by assumption))) | exact h_)) : B := k H.out
theorem bI_ {A B C : Prop} (H : Aside0 A) (hs : C) (k : A → C → B := by intro h_ s_; repeat (first | (with_reducible first | exact h_ | apply bA_ | apply bN_ | apply bD_ | refine below_set ?_ (Aside0.out (by assumption)) | refine below_set ?_ s_) | exact h_)) : B := k H.out hs
theorem bk_ {A B : Prop} (H : Aside0 A) (k : A → B := by intro h_; (with_reducible repeat (first | refine blk_drewN ?_ _ | refine blk_drew ?_ | refine blk_alloc ?_ _)); exact h_) : B := k H.out
theorem kr_ {A B : Prop} (H : Aside0 A) (k : A → B := by intro h_; (with_reducible repeat (first | apply kA_ | apply kN_ | apply kD_)); exact h_) : B := k H.out
theorem kp_ {A B : Prop} (H : Aside0 A) (k : A → B := by intro h_; repeat (first | (with_reducible first | exact h_ | apply KeepBut.set_ | apply keep_drewN | apply keep_drew | apply keep_alloc) | exact h_)) : B := k H.out
theorem bkb_ {w0 w1 w2 : World} {g : Nat} {o : Obj} (H : Aside0 (w0.heap[g]? = some o)) (hb : Below w1.heap.size w1 w2) (k : w0.heap[g]? = some o → w1.heap[g]? = some o := by intro h_; (with_reducible repeat (first | refine blk_drewN ?_ _ | refine blk_drew ?_ | refine blk_alloc ?_ _)); exact h_) : w2.heap[g]? = some o := blk_below (k H.out) hb
theorem bs_ {w w0 W : World} {g : Nat} (H : Aside0 (Below w.heap.size w w0)) (hg : g = W.heap.size) (k : Below w.heap.size w w0 → Below w.heap.size w W := by intro h_; repeat (first | (with_reducible first | exact h_ | apply bA_ | apply bN_ | apply bD_ | refine below_set ?_ (Aside0.out (by assumption))) | exact h_)) : w.heap.size ≤ g := by rw [hg]; exact below_size (k H.out)
theorem bnl_ {w0 W : World} {g g' : Nat} {o : Obj} (H : Aside0 (w0.heap[g]? = some o)) (hg : g' = W.heap.size) (k : w0.heap[g]? = some o → W.heap[g]? = some o := by intro h_; (with_reducible repeat (first | refine blk_drewN ?_ _ | refine blk_drew ?_ | refine blk_alloc ?_ _)); exact h_) : g ≠ g' := by rw [hg]; exact Nat.ne_of_lt (blk_lt (k H.out))
theorem bng_ {w0 W : World} {g g' : Nat} {o : Obj} (H : Aside0 (w0.heap[g]? = some o)) (hg : g' = W.heap.size) (k : w0.heap[g]? = some o → W.heap[g]? = some o := by intro h_; (with_reducible repeat (first | refine blk_drewN ?_ _ | refine blk_drew ?_ | refine blk_alloc ?_ _)); exact h_) : g' ≠ g := by rw [hg]; exact Nat.ne_of_gt (blk_lt (k H.out))
theorem bc_ {w : World} {g : Nat} {cs : Array Value} {t : TypeId} {v : Value} (H : Aside0 (w.heap[g]? = some (.cells cs t (0, 0)))) (i : Nat) (e : cs[i]? = some v := by rfl) : w.cell? ⟨g, i, none⟩ = some v := (blk_cell H.out i).trans e
section words
variable {P : Program} {ops : Array Oper} {rest : List Oper} {o : Oper} {a : Act} {Q : Exit → Act → World → Prop}
theorem boxE_ {W : World} {N : Tmp} (cs : Array Value) (t : TypeId)
  (h : ∀ g, g = W.heap.size → ∀ w1, w1.heap[g]? = some (.cells cs t (0, 0)) → Below W.heap.size W w1 → wpList P ops Q rest (a.put o.dst (.pointer (some ⟨g, 0, none⟩))) w1)
  (hg : o.guard = none := by rfl) (hd : o.dst = some N := by rfl)
  (hr : (execOp a.eval o).run P W = .ok (.value (.pointer (some ⟨W.heap.size, 0, none⟩))) (W.alloc (.cells cs t (0, 0))) := by first | (go_simp; done) | (go_simp; rfl)) : wpList P ops Q (o :: rest) a W := box_event hg hd hr h
theorem goesM_ {w : World} (N : Option Tmp) {f : FuncId} {fn : Func} {as_ : Array Operand} {ts : Array TypeId} (hf : P.funcs[f]? = some fn) (args : Array Value)
  (h : Calls P f args w fun e w' => ∃ v, e = .returned v ∧ wpList P ops Q rest (a.put N v) w')
  (hd : o.dst = N := by rfl) (hg : o.guard = none := by rfl) (hname : (fn.name == "runtime.NumGoroutine") = false := by kernel_rfl) (hb : fn.body.isSome = true := by rfl)
  (hop : o.op = .call { callee := .value (.func f), args := as_, argTypes := ts } := by exact rfl)
  (hargs : as_.map a.eval = args := by (try simp only [List.map_toArray, List.map_cons, List.map_nil]); first | done | rfl | (simp only [List.length_drop, List.length_take]; rfl)) : wpList P ops Q (o :: rest) a w := goesL_ N hd hg hf hname hb args hop hargs h
end words
section words2
variable {P : Program} {md : Region.Mode} {ops : Array Oper} {Q : Exit → Act → World → Prop} {S : World → Prop} {ds : List Nat} {n : Nat} {T : Bool × List (List Nat × List Nat)}
theorem pV_ {i N b b' : Nat} {pl : List (Nat × Nat × Nat × Nat)} {oi : Oper} {fuel : Nat} {a : Act} {w : World} {v : Value} {a' : Act} (HT : Aside0 (rtab md ops = T)) (h : wpPlan pl P md ops Q S ds fuel (bm n b') a' w)
  (hi : ops[i]? = some oi := by rfl) (hN : oi.dst = some N := by rfl) (hk : anyT T (bm n b).toList (bm n b').toList i = true := by kernel_rfl) (hQ : ∀ c a w, Q (.panic c) (a.put oi.dst v) w → Q (.panic c) a w := by exact fun _ _ _ h_ => h_)
  (hy : Yields P ops oi v a := by (refine Or.inl ⟨by rfl, ?_⟩); intro w'; go_simp; with_reducible rfl) (ha : a.put (some N) v = a' := by simp only [Act.put, List.setIfInBounds_toArray, List.set_cons_zero, List.set_cons_succ, i64_w, i32_w]; rfl) :
  wpPlan ((0, i, N, b') :: pl) P md ops Q S ds (fuel + 1) (bm n b) a w := planV_ v a' hi hN (any_of HT.out hk) hQ hy ha h
theorem pT_ {i N b b' : Nat} {pl : List (Nat × Nat × Nat × Nat)} {oi : Oper} {fuel : Nat} {a : Act} {w : World} {v : Value} {a' : Act} {B : List Nat} (HT : Aside0 (rtab md ops = T)) (HW : Aside0 (waitsOk T.2 B = true)) (hS : S w) (h : wpPlan pl P md ops Q S ds fuel (bm n b') a' w)
  (hi : ops[i]? = some oi := by rfl) (hN : oi.dst = some N := by rfl) (hk : takeW T B ds (bm n b).toList (bm n b').toList i = true := by kernel_rfl) (hQ : ∀ c a w, Q (.panic c) (a.put oi.dst v) w → Q (.panic c) a w := by exact fun _ _ _ h_ => h_)
  (hy : YieldsIf P ops S oi v a := by (refine Or.inl ⟨by rfl, ?_⟩); intro w' h_; (repeat (obtain ⟨h1_, h_⟩ := h_)); go_simp; with_reducible rfl) (ha : a.put (some N) v = a' := by simp only [Act.put, List.setIfInBounds_toArray, List.set_cons_zero, List.set_cons_succ, i64_w, i32_w]; rfl) :
  wpPlan ((2, i, N, b') :: pl) P md ops Q S ds (fuel + 1) (bm n b) a w := planT_ v a' hi hN (take_ofW HT.out HW.out hk) hQ hy hS ha h
theorem nrm_ {fuel : Nat} {l : Array Bool} {a a' : Act} {w : World} (h : wpAnyLast P md ops Q S ds fuel l a' w) (ha : a = a' := by simp only [Act.put, List.setIfInBounds_toArray, List.set_cons_zero, List.set_cons_succ, i64_w, i32_w]; rfl) : wpAnyLast P md ops Q S ds fuel l a w := norm_ ha h
theorem goesO_ {oi : Oper} {N : Option Tmp} {a : Act} {w : World} {K : Act → World → Prop} {f : FuncId} {fn : Func} {as_ : Array Operand} {ts : Array TypeId} (hf : P.funcs[f]? = some fn) (args : Array Value)
  (h : Calls P f args w fun e w' => ∃ v, e = .returned v ∧ K (a.put N v) w')
  (hname : (fn.name == "runtime.NumGoroutine") = false := by kernel_rfl) (hb : fn.body.isSome = true := by rfl) (hw : Region.wanted oi (yielded ops a.tmps) = true := by rfl) (hN : oi.dst = N := by rfl)
  (hop : oi.op = .call { callee := .value (.func f), args := as_, argTypes := ts } := by exact rfl)
  (hargs : as_.map a.eval = args := by (try simp only [List.map_toArray, List.map_cons, List.map_nil]); first | done | rfl | (simp only [List.length_drop, List.length_take]; rfl)) : if Region.wanted oi (yielded ops a.tmps) = true then Oper.wp P oi a w K Q else K (a.put N undef) w := goes_ hf hname hb args hw hN hop hargs h
end words2
theorem ifn_ {p : Prop} [Decidable p] {α : Type} {x : Option α} {r : α} (h : (if p then x else none) = some r) : decide p = true ∧ x = some r := by by_cases c : p <;> simp_all
theorem ifm_ {p : Prop} [Decidable p] {α : Type} {x : Option α} {r : α} (h : (if p then none else x) = some r) : ¬ p ∧ x = some r := by by_cases c : p <;> simp_all
theorem ifp_ {p : Prop} [Decidable p] {α : Type} {x : Option α} {r : α} (h : (if p then x else none) = some r) : p ∧ x = some r := by by_cases c : p <;> simp_all
theorem ifd_ {p : Prop} [Decidable p] {α : Type} {x y : Option α} {r : α} (h : (if p then x else y) = some r) : (decide p = true ∧ x = some r) ∨ (decide p = false ∧ y = some r) := by by_cases c : p <;> simp_all
theorem ifc_ {p : Prop} [Decidable p] {α : Type} {x y : Option α} {r : α} (h : (if p then x else y) = some r) : (p ∧ x = some r) ∨ (¬ p ∧ y = some r) := by by_cases c : p <;> simp_all
theorem hbc_ {w w' w2 : World} {p : Addr} {v : Value} {n : Nat} (H : Aside0 (Below n w w')) (h : w.cell? p = some v) (hn : n = w.heap.size := by rfl) (e : w'.cell? p = w2.cell? p := by rfl) : w2.cell? p = some v := by subst hn; exact e ▸ (H.out.cell (World.block_lt_of_cell? w _ h)).trans h
theorem hc_ {w w' : World} {p : Addr} {v : Value} (hb : Below w.heap.size w w') (h : w.cell? p = some v) : w'.cell? p = some v := (hb.cell (World.block_lt_of_cell? w _ h)).trans h
theorem atW_ {p q R : Prop} [Decidable p] [Decidable q] (h : p → q → R) (hp : decide p = true := by first | (with_reducible assumption) | assumption) (hq : decide q = true := by first | (with_reducible assumption) | assumption) : (p = True) ∧ (q = True) ∧ R := ⟨eq_true (of_decide_eq_true hp), eq_true (of_decide_eq_true hq), h (of_decide_eq_true hp) (of_decide_eq_true hq)⟩
def IsS96 (w0 W : World) (g : Nat) (f0 : Int) (f1 : (Nat → Int)) : Prop := W.heap[g]? = some (.cells (chiC f0 f1) 96 (0, 0)) ∧ w0.heap.size ≤ g
theorem IsS96.grown {w0 W : World} {g : Nat} {f0 : Int} {f1 : (Nat → Int)} {W1 : World} {row : Option Nat} (h : IsS96 w0 W g f0 f1) (hw : W.grownBy W1 row) (hne : some g ≠ row) : IsS96 w0 W1 g f0 f1 := by
 obtain ⟨hb, hg⟩ := h
 exact ⟨blk_grown hb hw hne, hg⟩
theorem IsS96.kept {w0 W : World} {g : Nat} {f0 : Int} {f1 : (Nat → Int)} {W1 : World} {S : Nat → Prop} (h : IsS96 w0 W g f0 f1) (hk : Kept W W1 S) (hne : ¬ S g) : IsS96 w0 W1 g f0 f1 := by
 obtain ⟨hb, hg⟩ := h
 exact ⟨blk_kept hb hk hne, hg⟩
theorem IsS96.below {w0 W : World} {g : Nat} {f0 : Int} {f1 : (Nat → Int)} {W1 : World} (h : IsS96 w0 W g f0 f1) (hw : Below W.heap.size W W1) : IsS96 w0 W1 g f0 f1 := h.grown (grown_of_below hw none) (by simp)
theorem IsS96.alloc {w0 W : World} {g : Nat} {f0 : Int} {f1 : (Nat → Int)} (h : IsS96 w0 W g f0 f1) (o : Obj) : IsS96 w0 (W.alloc o) g f0 f1 := h.below (bA_ (Below.refl _ _) o)
theorem IsS96.drewN {w0 W : World} {g : Nat} {f0 : Int} {f1 : (Nat → Int)} (h : IsS96 w0 W g f0 f1) (m : Nat) : IsS96 w0 (W.drewN m) g f0 f1 := h
theorem IsS96.drew {w0 W : World} {g : Nat} {f0 : Int} {f1 : (Nat → Int)} (h : IsS96 w0 W g f0 f1) : IsS96 w0 W.drew g f0 f1 := h
theorem IsS96.at_ {w0 W : World} {g : Nat} {f0 : Int} {f1 : (Nat → Int)} {w' : World} {m : Nat} (hq : W.drewN m = w') (h : IsS96 w0 W g f0 f1) : IsS96 w0 w' g f0 f1 := by subst hq; exact IsS96.drewN h m
theorem IsS96.apart {w0 W : World} {g : Nat} {f0 : Int} {f1 : (Nat → Int)} {α : Type} {d : Kd α} {e : Nat} {base : Nat} {ok : Nat → Prop} {v : Value} {xs : List α} (h : IsS96 w0 W g f0 f1) (ho : d.R e W base ok v xs) (ht : ∀ q, q ∈ e :: d.E → q ≠ 96) : d.R e W base (fun k => ok k ∧ k ≠ g) v xs := by
 obtain ⟨hb, hg⟩ := h
 exact Kd.R_types ho hb ht
theorem IsS96.own_ne {w0 W : World} {g : Nat} {f0 : Int} {f1 : (Nat → Int)} {α : Type} {d : Kd α} {e : Nat} {base : Nat} {ok : Nat → Prop} {v : Value} {xs : List α} (h : IsS96 w0 W g f0 f1) (ho : d.R e W base ok v xs) (ht : e ≠ 96) : some g ≠ v.ownBlock := by
 obtain ⟨hb, hg⟩ := h
 exact Kd.R_ne ho hb ht
theorem IsS96.lt {w0 W : World} {g : Nat} {f0 : Int} {f1 : (Nat → Int)} (h : IsS96 w0 W g f0 f1) : g < W.heap.size := by
 obtain ⟨hb, hg⟩ := h
 exact blk_lt hb
theorem IsS96.ge {w0 W : World} {g : Nat} {f0 : Int} {f1 : (Nat → Int)} (h : IsS96 w0 W g f0 f1) : w0.heap.size ≤ g := by
 obtain ⟨hb, hg⟩ := h
 exact hg
theorem IsS96.ne_blk {w0 W : World} {g : Nat} {f0 : Int} {f1 : (Nat → Int)} {a : Nat} {cs : Array Value} {t : TypeId} {fr : Nat × Nat} (h : IsS96 w0 W g f0 f1) (hb2 : W.heap[a]? = some (.cells cs t fr)) (ht : t ≠ 96) : g ≠ a := by
 obtain ⟨hb, hg⟩ := h
 rintro rfl
 rw [hb] at hb2
 injection hb2 with hb2
 injection hb2 with _ ht2
 exact ht ht2.symm
theorem IsS96.far {w0 W : World} {g : Nat} {f0 : Int} {f1 : (Nat → Int)} {p : Addr} (h : IsS96 w0 W g f0 f1) (hne : g ≠ p.block) (u : Value) : IsS96 w0 (W.setCell p u) g f0 f1 := by
 obtain ⟨hb, hg⟩ := h
 exact ⟨blk_far hb hne u, hg⟩
theorem cellS96_0 {W : World} {g : Nat} {f0 : Int} {f1 : (Nat → Int)} (h : W.heap[g]? = some (.cells (chiC f0 f1) 96 (0, 0))) : W.cell? ⟨g, 0, none⟩ = some (.int .i64 f0) := (blk_cell h 0).trans (by simp [chiC])
end Go.Proofs.YteaagaekdkolnaaGreatDoor.P

namespace Go.Proofs.YteaagaekdkolnaaGreatDoor.P
open Go.RowKit Go.Proofs.YteaagaekdkolnaaGreatDoorW.PrintWords Go.Proofs.YteaagaekdkolnaaGreatDoorW.PrintLast Go.Proofs.YteaagaekdkolnaaGreatDoorW.PrintMore
attribute [local go_sem] max2_int min2_int max_two min_two max_three min_three max_four min_four   -- for this text's walks alone
set_option linter.unusedVariables false
set_option linter.unusedSimpArgs false
/-! ### laws_szPointS: function 4 -/
def laws_szPointS.f (l0 : List (S36)) (a1 : Int) : Option (Int) := if (wrap64 (a1 - (l0.length : Int))) < 0 then (some (-1)) else (some (wrap64 (a1 - (l0.length : Int))))
set_option maxHeartbeats 8000000 in
set_option maxRecDepth 100000 in
theorem laws_szPointS.calls (A0 : Option Addr) (c0 : Nat) (l0 : List (S36)) (a1 : Int) (r : Int) (w : World) (hr0 : Kd.C k36 w A0 l0.length l0) (hc0 : l0.length ≤ c0) (h : laws_szPointS.f l0 a1 = some r) :
  Calls Tryz.prog 4 #[.slice A0 l0.length c0, .int .i64 a1] w fun e w' => e = .returned (.int .i64 r) ∧ Drawn0 w w' := by
 have HR0 := aM_ hr0
 have HC0 := aM_ hc0
 clear hr0 hc0
 have H : (if (wrap64 (a1 - (l0.length : Int))) < 0 then (some (-1)) else (some (wrap64 (a1 - (l0.length : Int))))) = some r := h
 clear h
 rcases ifd_ H with ⟨c3b0, H⟩ | ⟨c3b0, H⟩
 ·obtain rfl := Option.some.inj H
  go_enter Tryz.func4, Tryz.ntmps4
  go_wp2
  go_ret
  exact ⟨veq_, by repeat (first | exact Drawn0.refl _ | apply Drawn0.step)⟩
 ·obtain rfl := Option.some.inj H
  go_enter Tryz.func4, Tryz.ntmps4
  go_wp2
  go_ret
  exact ⟨veq_, by repeat (first | exact Drawn0.refl _ | apply Drawn0.step)⟩
end Go.Proofs.YteaagaekdkolnaaGreatDoor.P

namespace Go.Proofs.YteaagaekdkolnaaGreatDoor.P
open Go.RowKit Go.Proofs.YteaagaekdkolnaaGreatDoorW.PrintWords Go.Proofs.YteaagaekdkolnaaGreatDoorW.PrintLast Go.Proofs.YteaagaekdkolnaaGreatDoorW.PrintMore
attribute [local go_sem] max2_int min2_int max_two min_two max_three min_three max_four min_four   -- for this text's walks alone
set_option linter.unusedVariables false
set_option linter.unusedSimpArgs false
/-! ### spec_l1In: function 26 -/
def spec_l1In.f (a0 : Int) (a1 : Int) (a2 : Int) : Option (Bool) := if a0 ≥ a1 then (some (decide (a0 ≤ a2))) else (some false)
set_option maxHeartbeats 8000000 in
set_option maxRecDepth 100000 in
theorem spec_l1In.calls (a0 : Int) (a1 : Int) (a2 : Int) (r : Bool) (w : World) (h : spec_l1In.f a0 a1 a2 = some r) :
  Calls Tryz.prog 26 #[.int .i64 a0, .int .i64 a1, .int .i64 a2] w fun e w' => e = .returned (.bool r) ∧ Drawn0 w w' := by
 have H : (if a0 ≥ a1 then (some (decide (a0 ≤ a2))) else (some false)) = some r := h
 clear h
 rcases ifd_ H with ⟨c4b0, H⟩ | ⟨c4b0, H⟩
 ·obtain rfl := Option.some.inj H
  go_enter Tryz.func26, Tryz.ntmps26
  go_wp2
  go_ret
  exact ⟨veq_, by repeat (first | exact Drawn0.refl _ | apply Drawn0.step)⟩
 ·obtain rfl := Option.some.inj H
  go_enter Tryz.func26, Tryz.ntmps26
  go_wp2
  go_ret
  exact ⟨veq_, by repeat (first | exact Drawn0.refl _ | apply Drawn0.step)⟩
end Go.Proofs.YteaagaekdkolnaaGreatDoor.P

namespace Go.Proofs.YteaagaekdkolnaaGreatDoor.P
open Go.RowKit Go.Proofs.YteaagaekdkolnaaGreatDoorW.PrintWords Go.Proofs.YteaagaekdkolnaaGreatDoorW.PrintLast Go.Proofs.YteaagaekdkolnaaGreatDoorW.PrintMore
attribute [local go_sem] max2_int min2_int max_two min_two max_three min_three max_four min_four   -- for this text's walks alone
set_option linter.unusedVariables false
set_option linter.unusedSimpArgs false
/-! ### spec_l2Fits: function 27 -/
def spec_l2Fits.f (a0_0 : Int) (a0_1 : Int) (a1 : Int) : Option (Bool) := (spec_l1In.f a0_0 (wrap64 (-a1)) a1).bind fun t102 => (if t102 = true then ((spec_l1In.f a0_1 (wrap64 (-a1)) a1).bind fun t103 => (some t103)) else (some false))
set_option maxHeartbeats 8000000 in
set_option maxRecDepth 100000 in
theorem spec_l2Fits.calls (a0_0 : Int) (a0_1 : Int) (a1 : Int) (r : Bool) (w : World) (h : spec_l2Fits.f a0_0 a0_1 a1 = some r) :
  Calls Tryz.prog 27 #[.agg #[.int .i64 a0_0, .int .i64 a0_1], .int .i64 a1] w fun e w' => e = .returned (.bool r) ∧ Below w.heap.size w w' := by
 have hu34 := Tryz.underlying34
 have HB := aM_ (Below.refl w.heap.size w)
 have H : ((spec_l1In.f a0_0 (wrap64 (-a1)) a1).bind fun t102 => (if t102 = true then ((spec_l1In.f a0_1 (wrap64 (-a1)) a1).bind fun t103 => (some t103)) else (some false))) = some r := h
 clear h
 replace H := oB_ H
 obtain ⟨t102, A30, H⟩ := H
 have A3 := aM_ A30
 clear A30
 by_cases c4 : t102 = true
 ·subst c4
  rw [if_pos rfl] at H
  replace H := oB_ H
  obtain ⟨t103, A50, H⟩ := H
  have A5 := aM_ A50
  clear A50
  obtain rfl := Option.some.inj H
  go_enter Tryz.func27, Tryz.ntmps27
  go_wp2_with (first | ((with_reducible refine gate_dst (N := 2) rfl ?_); refine boxE_ (N := 2) #[.int .i64 a0_0, .int .i64 a0_1] 34 ?_; intro gb101 hg w6 hbox hb; have BK101 := aM_ (hbox); have GW101 := aM_ ((bs_ HB hg)); have GE101 := aM_ ((bs_ HB hg)); replace HB := aM_ (below_step (bB_ HB) hb); clear hb hbox hg; have hcz7_0 := bc_ BK101 0; have hcz7_1 := bc_ BK101 1; have hfz7_0 := blk_frozen BK101.out 0; have hfz7_1 := blk_frozen BK101.out 1) | ((with_reducible refine gate_callee (f := 26) rfl ?_); refine goesM_ (some 10) Tryz.func26 #[.int .i64 a0_0, .int .i64 (wrap64 (-a1)), .int .i64 a1] ?_; (with_reducible refine (spec_l1In.calls a0_0 (wrap64 (-a1)) a1 true _ A3.out).mono ?_); rintro e w' ⟨rfl, ⟨nd, rfl⟩⟩; refine ⟨_, rfl, ?_⟩) | (go_at_call 26; (with_reducible refine (spec_l1In.calls a0_1 (wrap64 (-a1)) a1 t103 _ A5.out).mono ?_); rintro e w' ⟨rfl, ⟨nd, rfl⟩⟩))
  go_ret
  exact ⟨verr_, bB_ HB⟩
 ·replace c4 := Bool.eq_false_iff.mpr c4
  subst c4
  rw [if_neg (show ¬ (false = true) by decide)] at H
  obtain rfl := Option.some.inj H
  go_enter Tryz.func27, Tryz.ntmps27
  go_wp2_with (first | ((with_reducible refine gate_dst (N := 2) rfl ?_); refine boxE_ (N := 2) #[.int .i64 a0_0, .int .i64 a0_1] 34 ?_; intro gb101 hg w8 hbox hb; have BK101 := aM_ (hbox); have GW101 := aM_ ((bs_ HB hg)); have GE101 := aM_ ((bs_ HB hg)); replace HB := aM_ (below_step (bB_ HB) hb); clear hb hbox hg; have hcz9_0 := bc_ BK101 0; have hcz9_1 := bc_ BK101 1; have hfz9_0 := blk_frozen BK101.out 0; have hfz9_1 := blk_frozen BK101.out 1) | ((with_reducible refine gate_callee (f := 26) rfl ?_); refine goesM_ (some 10) Tryz.func26 #[.int .i64 a0_0, .int .i64 (wrap64 (-a1)), .int .i64 a1] ?_; (with_reducible refine (spec_l1In.calls a0_0 (wrap64 (-a1)) a1 false _ A3.out).mono ?_); rintro e w' ⟨rfl, ⟨nd, rfl⟩⟩; refine ⟨_, rfl, ?_⟩))
  go_ret
  exact ⟨verr_, bB_ HB⟩
end Go.Proofs.YteaagaekdkolnaaGreatDoor.P

namespace Go.Proofs.YteaagaekdkolnaaGreatDoor.P
open Go.RowKit Go.Proofs.YteaagaekdkolnaaGreatDoorW.PrintWords Go.Proofs.YteaagaekdkolnaaGreatDoorW.PrintLast Go.Proofs.YteaagaekdkolnaaGreatDoorW.PrintMore
attribute [local go_sem] max2_int min2_int max_two min_two max_three min_three max_four min_four   -- for this text's walks alone
set_option linter.unusedVariables false
set_option linter.unusedSimpArgs false
/-! ### spec_l2Area: function 28 -/
def spec_l2Area.f (a0_0 : Int) (a0_1 : Int) (a1_0 : Int) (a1_1 : Int) (a2_0 : Int) (a2_1 : Int) : Option (Int) := some (wrap64 ((wrap64 ((wrap64 (a1_0 - a0_0)) * (wrap64 (a2_1 - a0_1)))) - (wrap64 ((wrap64 (a1_1 - a0_1)) * (wrap64 (a2_0 - a0_0))))))
set_option maxHeartbeats 8000000 in
set_option maxRecDepth 100000 in
theorem spec_l2Area.calls (a0_0 : Int) (a0_1 : Int) (a1_0 : Int) (a1_1 : Int) (a2_0 : Int) (a2_1 : Int) (r : Int) (w : World) (h : spec_l2Area.f a0_0 a0_1 a1_0 a1_1 a2_0 a2_1 = some r) :
  Calls Tryz.prog 28 #[.agg #[.int .i64 a0_0, .int .i64 a0_1], .agg #[.int .i64 a1_0, .int .i64 a1_1], .agg #[.int .i64 a2_0, .int .i64 a2_1]] w fun e w' => e = .returned (.int .i64 r) ∧ Below w.heap.size w w' := by
 have hu34 := Tryz.underlying34
 have HB := aM_ (Below.refl w.heap.size w)
 have H : (some (wrap64 ((wrap64 ((wrap64 (a1_0 - a0_0)) * (wrap64 (a2_1 - a0_1)))) - (wrap64 ((wrap64 (a1_1 - a0_1)) * (wrap64 (a2_0 - a0_0))))))) = some r := h
 clear h
 obtain rfl := Option.some.inj H
 go_enter Tryz.func28, Tryz.ntmps28
 go_wp2_with (first | ((with_reducible refine gate_dst (N := 3) rfl ?_); refine boxE_ (N := 3) #[.int .i64 a0_0, .int .i64 a0_1] 34 ?_; intro gb101 hg w4 hbox hb; have BK101 := aM_ (hbox); have GW101 := aM_ ((bs_ HB hg)); have GE101 := aM_ ((bs_ HB hg)); replace HB := aM_ (below_step (bB_ HB) hb); clear hb hbox hg) | ((with_reducible refine gate_dst (N := 4) rfl ?_); refine boxE_ (N := 4) #[.int .i64 a1_0, .int .i64 a1_1] 34 ?_; intro gb102 hg w5 hbox hb; have BK102 := aM_ (hbox); have GW102 := aM_ ((bs_ HB hg)); have GE102 := aM_ ((bs_ HB hg)); replace HB := aM_ (below_step (bB_ HB) hb); have NB101_102 := aM_ ((bnl_ BK101 hg)); have NB102_101 := aM_ ((bng_ BK101 hg)); replace BK101 := aM_ (bkb_ BK101 hb); clear hb hbox hg) | ((with_reducible refine gate_dst (N := 5) rfl ?_); refine boxE_ (N := 5) #[.int .i64 a2_0, .int .i64 a2_1] 34 ?_; intro gb103 hg w6 hbox hb; have BK103 := aM_ (hbox); have GW103 := aM_ ((bs_ HB hg)); have GE103 := aM_ ((bs_ HB hg)); replace HB := aM_ (below_step (bB_ HB) hb); have NB101_103 := aM_ ((bnl_ BK101 hg)); have NB103_101 := aM_ ((bng_ BK101 hg)); replace BK101 := aM_ (bkb_ BK101 hb); have NB102_103 := aM_ ((bnl_ BK102 hg)); have NB103_102 := aM_ ((bng_ BK102 hg)); replace BK102 := aM_ (bkb_ BK102 hb); clear hb hbox hg; have hnb7 := NB102_101.out; have hnc7 := NB101_102.out; have hnb8 := NB102_103.out; have hnc8 := NB103_102.out; have hcz9_0 := bc_ BK102 0; have hcz9_1 := bc_ BK102 1; have hfz9_0 := blk_frozen BK102.out 0; have hfz9_1 := blk_frozen BK102.out 1; have hnb10 := NB101_103.out; have hnc10 := NB103_101.out; have hcz11_0 := bc_ BK101 0; have hcz11_1 := bc_ BK101 1; have hfz11_0 := blk_frozen BK101.out 0; have hfz11_1 := blk_frozen BK101.out 1; have hcz12_0 := bc_ BK103 0; have hcz12_1 := bc_ BK103 1; have hfz12_0 := blk_frozen BK103.out 0; have hfz12_1 := blk_frozen BK103.out 1))
 go_ret
 exact ⟨verr_, bB_ HB⟩
end Go.Proofs.YteaagaekdkolnaaGreatDoor.P

namespace Go.Proofs.YteaagaekdkolnaaGreatDoor.P
open Go.RowKit Go.Proofs.YteaagaekdkolnaaGreatDoorW.PrintWords Go.Proofs.YteaagaekdkolnaaGreatDoorW.PrintLast Go.Proofs.YteaagaekdkolnaaGreatDoorW.PrintMore
attribute [local go_sem] max2_int min2_int max_two min_two max_three min_three max_four min_four   -- for this text's walks alone
set_option linter.unusedVariables false
set_option linter.unusedSimpArgs false
/-! ### spec_ArePoints: function 9 -/
mutual
def spec_ArePoints.l0 : Nat → List (S34) → Int → Option (Bool)
 | 0, _, _ => none
 | k + 1, x0, x3 => if x3 < (x0.length : Int) then (if 0 ≤ x3 then ((spec_l2Fits.f ((rd_T34 x0 x3).f0) ((rd_T34 x0 x3).f1) 50).bind fun t103 => (if t103 = true then (spec_ArePoints.l1 k x0 x3 0) else (some false))) else (none)) else (some true)
def spec_ArePoints.l1 : Nat → List (S34) → Int → Int → Option (Bool)
 | 0, _, _, _ => none
 | k + 1, x0, x3, x4 => if x4 < x3 then (spec_ArePoints.l2 k x0 x3 x4 0) else (spec_ArePoints.l0 k x0 (wrap64 (x3 + 1)))
def spec_ArePoints.l2 : Nat → List (S34) → Int → Int → Int → Option (Bool)
 | 0, _, _, _, _ => none
 | k + 1, x0, x3, x4, x5 => if x5 < x4 then (if 0 ≤ x5 then (if x5 < (x0.length : Int) then (if 0 ≤ x4 then (if x4 < (x0.length : Int) then (if 0 ≤ x3 then (if x3 < (x0.length : Int) then ((spec_l2Area.f ((rd_T34 x0 x5).f0) ((rd_T34 x0 x5).f1) ((rd_T34 x0 x4).f0) ((rd_T34 x0 x4).f1) ((rd_T34 x0 x3).f0) ((rd_T34 x0 x3).f1)).bind fun t107 => (if t107 = 0 then (some false) else (spec_ArePoints.l2 k x0 x3 x4 (wrap64 (x5 + 1))))) else (none)) else (none)) else (none)) else (none)) else (none)) else (none)) else (spec_ArePoints.l1 k x0 x3 (wrap64 (x4 + 1)))
end
def spec_ArePoints.f (k : Nat) (l0 : List (S34)) : Option (Bool) := (spec_l1In.f (l0.length : Int) 3 7).bind fun t101 => (if t101 = true then (spec_ArePoints.l0 k l0 0) else (some false))
def spec_ArePoints.T14 : Bool × List (List Nat × List Nat) := (true, [([], []), ([], []), ([0, 1], [0, 1]), ([2], [2]), ([], []), ([], []), ([4, 5], [4, 5]), ([6], [6]), ([], []), ([], []), ([8, 9], [8, 9]), ([10], [10]), ([3, 7, 11], [3, 7, 11]), ([12], [12])])
def spec_ArePoints.B14 : List Nat := [0, 0, 3, 7, 0, 0, 48, 112, 0, 0, 768, 1792, 4095, 8191]
theorem spec_ArePoints.tab14 : rtab .any (opsOf Tryz.f9 14) = spec_ArePoints.T14 := by kernel_rfl
theorem spec_ArePoints.bits14 : waitsOk spec_ArePoints.T14.2 spec_ArePoints.B14 = true := by kernel_rfl
set_option maxHeartbeats 8000000 in
set_option maxRecDepth 100000 in
theorem spec_ArePoints.calls (k : Nat) (A0 : Option Addr) (c0 : Nat) (l0 : List (S34)) (r : Bool) (w : World) (hr0 : Kd.C k34 w A0 l0.length l0) (hc0 : l0.length ≤ c0) (h : spec_ArePoints.f k l0 = some r) :
  Calls Tryz.prog 9 #[.slice A0 l0.length c0] w fun e w' => e = .returned (.bool r) ∧ Below w.heap.size w w' := by
 have hu34 := Tryz.underlying34
 have HR0 := aM_ hr0
 have HC0 := aM_ hc0
 clear hr0 hc0
 have HB := aM_ (Below.refl w.heap.size w)
 have H : ((spec_l1In.f (l0.length : Int) 3 7).bind fun t101 => (if t101 = true then (spec_ArePoints.l0 k l0 0) else (some false))) = some r := h
 clear h
 replace H := oB_ H
 obtain ⟨t101, A20, H⟩ := H
 have A2 := aM_ A20
 clear A20
 by_cases c3 : t101 = true
 ·subst c3
  rw [if_pos rfl] at H
  have H' := aM_ H
  clear H
  go_enter Tryz.func9, Tryz.ntmps9
  go_wp2_with (first | ((with_reducible refine gate_callee (f := 26) rfl ?_); refine goesM_ (some 8) Tryz.func26 #[.int .i64 (l0.length : Int), .int .i64 3, .int .i64 7] ?_; (with_reducible refine (spec_l1In.calls (l0.length : Int) 3 7 true _ A2.out).mono ?_); rintro e w' ⟨rfl, ⟨nd, rfl⟩⟩; refine ⟨_, rfl, ?_⟩))
  go_loopg [3] k (fun kq v3 w' => ∃ (x3_1 : Int), v3 = .int .i64 x3_1 ∧ Aside0 (spec_ArePoints.l0 kq l0 x3_1 = some r) ∧ Aside0 (kq ≤ k) ∧ Aside0 (Below w.heap.size w w'))
  case atStart => exact ⟨(0), veq_, H', ⟨Nat.le_refl _⟩, ⟨bB_ HB⟩⟩
  case round =>
   clear H'
   try clear c3
   obtain ⟨x3_1, rfl, HA, HK1, HB⟩ := hrel
   cases gk with
   | zero => exact absurd HA.out (by simp [spec_ArePoints.l0])
   | succ k1 =>
    have H := HA.out
    clear HA
    simp only [spec_ArePoints.l0] at H
    rcases ifd_ H with ⟨c4b0, H⟩ | ⟨c4b0, H⟩
    ·obtain ⟨c5b0, H⟩ := ifn_ H
     replace H := oB_ H
     obtain ⟨t103, A60, H⟩ := H
     have A6 := aM_ A60
     clear A60
     by_cases c7 : t103 = true
     ·subst c7
      rw [if_pos rfl] at H
      have H' := aM_ H
      clear H
      have p102 : 0 ≤ (x3_1 : Int) := ode_
      have q102 : x3_1 < (l0.length : Int) := ode_
      obtain ⟨ad102, e102, hx102_0, hx102_1⟩ := at_T34 HR0.out x3_1 p102 q102
      cases e102
      replace hx102_0 := hbc_ HB hx102_0
      replace hx102_1 := hbc_ HB hx102_1
      replace p102 := eq_true p102
      replace q102 := eq_true q102
      go_wp2_with (first | ((with_reducible refine gate_callee (f := 27) rfl ?_); refine goesM_ (some 20) Tryz.func27 #[.agg #[.int .i64 ((rd_T34 l0 x3_1).f0), .int .i64 ((rd_T34 l0 x3_1).f1)], .int .i64 50] ?_; (with_reducible refine (spec_l2Fits.calls ((rd_T34 l0 x3_1).f0) ((rd_T34 l0 x3_1).f1) 50 true _ A6.out).mono ?_); rintro e w8 ⟨rfl, hb⟩; refine ⟨_, rfl, ?_⟩; replace HB := aM_ (below_step (bB_ HB) hb); (try clear hb)))
      go_loopg [4] k1 (fun kq v4 w' => ∃ (x4_2 : Int), v4 = .int .i64 x4_2 ∧ Aside0 (spec_ArePoints.l1 kq l0 x3_1 x4_2 = some r) ∧ Aside0 (kq ≤ k1) ∧ Aside0 (Below w.heap.size w w'))
      case atStart => exact ⟨(0), veq_, H', ⟨Nat.le_refl _⟩, ⟨bB_ HB⟩⟩
      case round =>
       clear H'
       try clear c3
       try clear c4b0
       try clear c5b0
       try clear c7
       try clear hx102_0
       try clear hx102_1
       try clear p102
       try clear q102
       obtain ⟨x4_2, rfl, HA, HK2, HB⟩ := hrel
       cases gk with
       | zero => exact absurd HA.out (by simp [spec_ArePoints.l1])
       | succ k2 =>
        have H := HA.out
        clear HA
        simp only [spec_ArePoints.l1] at H
        rcases ifd_ H with ⟨c9b0, H⟩ | ⟨c9b0, H⟩
        ·have H' := aM_ H
         clear H
         go_wp2
         go_loopg [5] k2 (fun kq v5 w' => ∃ (x5_3 : Int), v5 = .int .i64 x5_3 ∧ Aside0 (spec_ArePoints.l2 kq l0 x3_1 x4_2 x5_3 = some r) ∧ Aside0 (kq ≤ k2) ∧ Aside0 (Below w.heap.size w w'))
         case atStart => exact ⟨(0), veq_, H', ⟨Nat.le_refl _⟩, ⟨bB_ HB⟩⟩
         case round =>
          clear H'
          try clear c3
          try clear c4b0
          try clear c5b0
          try clear c7
          try clear c9b0
          try clear hx102_0
          try clear hx102_1
          try clear p102
          try clear q102
          obtain ⟨x5_3, rfl, HA, HK3, HB⟩ := hrel
          cases gk with
          | zero => exact absurd HA.out (by simp [spec_ArePoints.l2])
          | succ k3 =>
           have H := HA.out
           clear HA
           simp only [spec_ArePoints.l2] at H
           rcases ifd_ H with ⟨c10b0, H⟩ | ⟨c10b0, H⟩
           ·obtain ⟨c11b0, H⟩ := ifn_ H
            obtain ⟨c12b0, H⟩ := ifn_ H
            obtain ⟨c13b0, H⟩ := ifn_ H
            obtain ⟨c14b0, H⟩ := ifn_ H
            obtain ⟨c15b0, H⟩ := ifn_ H
            obtain ⟨c16b0, H⟩ := ifn_ H
            replace H := oB_ H
            obtain ⟨t107, A170, H⟩ := H
            have A17 := aM_ A170
            clear A170
            rcases ifc_ H with ⟨c18, H⟩ | ⟨c18, H⟩
            ·have c18b0 : (t107 == 0) = true := beq_iff_eq.mpr c18
             have c18b1 : (t107 != 0) = false := bne_eq_false_iff_eq.mpr c18
             clear c18
             obtain rfl := Option.some.inj H
             try go_wp2
             replace HB := aM_ (bD_ HB.out)
             have p104 : 0 ≤ (x5_3 : Int) := ode_
             have q104 : x5_3 < (l0.length : Int) := ode_
             obtain ⟨ad104, e104, hx104_0, hx104_1⟩ := at_T34 HR0.out x5_3 p104 q104
             have hw104_1 := hx104_1
             have hw104_0 := hx104_0
             obtain rfl : ad102 = ad104 := (by injection e104)
             replace hx104_0 := hbc_ HB hx104_0
             replace hx104_1 := hbc_ HB hx104_1
             replace p104 := eq_true p104
             replace q104 := eq_true q104
             have p105 : 0 ≤ (x4_2 : Int) := ode_
             have q105 : x4_2 < (l0.length : Int) := ode_
             obtain ⟨ad105, e105, hx105_0, hx105_1⟩ := at_T34 HR0.out x4_2 p105 q105
             have hw105_1 := hx105_1
             have hw105_0 := hx105_0
             obtain rfl : ad102 = ad105 := (by injection e105)
             replace hx105_0 := hbc_ HB hx105_0
             replace hx105_1 := hbc_ HB hx105_1
             replace p105 := eq_true p105
             replace q105 := eq_true q105
             have p106 : 0 ≤ (x3_1 : Int) := ode_
             have q106 : x3_1 < (l0.length : Int) := ode_
             obtain ⟨ad106, e106, hx106_0, hx106_1⟩ := at_T34 HR0.out x3_1 p106 q106
             have hw106_1 := hx106_1
             have hw106_0 := hx106_0
             obtain rfl : ad102 = ad106 := (by injection e106)
             replace hx106_0 := hbc_ HB hx106_0
             replace hx106_1 := hbc_ HB hx106_1
             replace p106 := eq_true p106
             replace q106 := eq_true q106
             refine start_ (n := 14) (S := fun w' => w'.cell? (ad102.add ((x5_3).toNat * 2)) = some (.int .i64 ((rd_T34 l0 x5_3).f0)) ∧ w'.cell? ⟨(ad102.add ((x5_3).toNat * 2)).block, (ad102.add ((x5_3).toNat * 2)).off + 1, none⟩ = some (.int .i64 ((rd_T34 l0 x5_3).f1)) ∧ w'.cell? (ad102.add ((x4_2).toNat * 2)) = some (.int .i64 ((rd_T34 l0 x4_2).f0)) ∧ w'.cell? ⟨(ad102.add ((x4_2).toNat * 2)).block, (ad102.add ((x4_2).toNat * 2)).off + 1, none⟩ = some (.int .i64 ((rd_T34 l0 x4_2).f1)) ∧ w'.cell? (ad102.add ((x3_1).toNat * 2)) = some (.int .i64 ((rd_T34 l0 x3_1).f0)) ∧ w'.cell? ⟨(ad102.add ((x3_1).toNat * 2)).block, (ad102.add ((x3_1).toNat * 2)).off + 1, none⟩ = some (.int .i64 ((rd_T34 l0 x3_1).f1))) (ds := []) (bm 14 0) (by kernel_rfl) rfl rfl ⟨(hbc_ HB hw104_0), (hbc_ HB hw104_1), (hbc_ HB hw105_0), (hbc_ HB hw105_1), (hbc_ HB hw106_0), (hbc_ HB hw106_1)⟩ (fun hHeld => ?_); refine with_tabW spec_ArePoints.tab14 spec_ArePoints.bits14 (fun HT_ HW_ => ?_)
             generalize wr.drew = w19 at HB hx104_0 hx104_1 hx105_0 hx105_1 hx106_0 hx106_1 hHeld ⊢
             refine plan_ ((0, 0, 32, 1) :: (0, 1, 33, 3) :: (0, 2, 34, 7) :: (0, 4, 36, 23) :: (0, 5, 37, 55) :: (0, 6, 38, 119) :: (0, 8, 40, 375) :: (0, 9, 41, 887) :: (0, 10, 42, 1911) :: (2, 3, 35, 1919) :: (2, 7, 39, 2047) :: (2, 11, 43, 4095) :: []) ?_
             iterate 12 (first | refine pV_ HT_ ?_ | refine pT_ HT_ HW_ hHeld ?_)
             refine planEnd_ ?_
             refine one_ (i := 12) (N := some 44) (bm 14 8191) rfl rfl (one_of HT_.out (by kernel_rfl)) (by decide) (fun K hK => ?_)
             refine goesO_ Tryz.func28 #[.agg #[.int .i64 ((rd_T34 l0 x5_3).f0), .int .i64 ((rd_T34 l0 x5_3).f1)], .agg #[.int .i64 ((rd_T34 l0 x4_2).f0), .int .i64 ((rd_T34 l0 x4_2).f1)], .agg #[.int .i64 ((rd_T34 l0 x3_1).f0), .int .i64 ((rd_T34 l0 x3_1).f1)]] ?_
             with_reducible refine (spec_l2Area.calls ((rd_T34 l0 x5_3).f0) ((rd_T34 l0 x5_3).f1) ((rd_T34 l0 x4_2).f0) ((rd_T34 l0 x4_2).f1) ((rd_T34 l0 x3_1).f0) ((rd_T34 l0 x3_1).f1) t107 _ A17.out).mono ?_
             rintro e w20 ⟨rfl, hb⟩
             refine ⟨_, rfl, ?_⟩
             replace HB := aM_ (below_step (bB_ HB) hb)
             (try clear hb)
             refine hK.out _ _ ⟨(hbc_ HB hw104_0), (hbc_ HB hw104_1), (hbc_ HB hw105_0), (hbc_ HB hw105_1), (hbc_ HB hw106_0), (hbc_ HB hw106_1)⟩ (fun hHeld => ?_)
             clear hK K
             refine nrm_ ?_
             refine plan_ ((0, 13, 45, 16383) :: []) ?_
             iterate 1 (first | refine pV_ HT_ ?_)
             refine planEnd_ ?_
             refine done_ (done_of HT_.out (by kernel_rfl)) ?_
             try go_wp2
             go_ret
             exact ⟨verr_, bB_ HB⟩
            ·have c18b0 : (t107 == 0) = false := beq_eq_false_iff_ne.mpr c18
             have c18b1 : (t107 != 0) = true := bne_iff_ne.mpr c18
             have H' := aM_ H
             clear H
             try go_wp2
             replace HB := aM_ (bD_ HB.out)
             have p104 : 0 ≤ (x5_3 : Int) := ode_
             have q104 : x5_3 < (l0.length : Int) := ode_
             obtain ⟨ad104, e104, hx104_0, hx104_1⟩ := at_T34 HR0.out x5_3 p104 q104
             have hw104_1 := hx104_1
             have hw104_0 := hx104_0
             obtain rfl : ad102 = ad104 := (by injection e104)
             replace hx104_0 := hbc_ HB hx104_0
             replace hx104_1 := hbc_ HB hx104_1
             replace p104 := eq_true p104
             replace q104 := eq_true q104
             have p105 : 0 ≤ (x4_2 : Int) := ode_
             have q105 : x4_2 < (l0.length : Int) := ode_
             obtain ⟨ad105, e105, hx105_0, hx105_1⟩ := at_T34 HR0.out x4_2 p105 q105
             have hw105_1 := hx105_1
             have hw105_0 := hx105_0
             obtain rfl : ad102 = ad105 := (by injection e105)
             replace hx105_0 := hbc_ HB hx105_0
             replace hx105_1 := hbc_ HB hx105_1
             replace p105 := eq_true p105
             replace q105 := eq_true q105
             have p106 : 0 ≤ (x3_1 : Int) := ode_
             have q106 : x3_1 < (l0.length : Int) := ode_
             obtain ⟨ad106, e106, hx106_0, hx106_1⟩ := at_T34 HR0.out x3_1 p106 q106
             have hw106_1 := hx106_1
             have hw106_0 := hx106_0
             obtain rfl : ad102 = ad106 := (by injection e106)
             replace hx106_0 := hbc_ HB hx106_0
             replace hx106_1 := hbc_ HB hx106_1
             replace p106 := eq_true p106
             replace q106 := eq_true q106
             refine start_ (n := 14) (S := fun w' => w'.cell? (ad102.add ((x5_3).toNat * 2)) = some (.int .i64 ((rd_T34 l0 x5_3).f0)) ∧ w'.cell? ⟨(ad102.add ((x5_3).toNat * 2)).block, (ad102.add ((x5_3).toNat * 2)).off + 1, none⟩ = some (.int .i64 ((rd_T34 l0 x5_3).f1)) ∧ w'.cell? (ad102.add ((x4_2).toNat * 2)) = some (.int .i64 ((rd_T34 l0 x4_2).f0)) ∧ w'.cell? ⟨(ad102.add ((x4_2).toNat * 2)).block, (ad102.add ((x4_2).toNat * 2)).off + 1, none⟩ = some (.int .i64 ((rd_T34 l0 x4_2).f1)) ∧ w'.cell? (ad102.add ((x3_1).toNat * 2)) = some (.int .i64 ((rd_T34 l0 x3_1).f0)) ∧ w'.cell? ⟨(ad102.add ((x3_1).toNat * 2)).block, (ad102.add ((x3_1).toNat * 2)).off + 1, none⟩ = some (.int .i64 ((rd_T34 l0 x3_1).f1))) (ds := []) (bm 14 0) (by kernel_rfl) rfl rfl ⟨(hbc_ HB hw104_0), (hbc_ HB hw104_1), (hbc_ HB hw105_0), (hbc_ HB hw105_1), (hbc_ HB hw106_0), (hbc_ HB hw106_1)⟩ (fun hHeld => ?_); refine with_tabW spec_ArePoints.tab14 spec_ArePoints.bits14 (fun HT_ HW_ => ?_)
             generalize wr.drew = w21 at HB hx104_0 hx104_1 hx105_0 hx105_1 hx106_0 hx106_1 hHeld ⊢
             refine plan_ ((0, 0, 32, 1) :: (0, 1, 33, 3) :: (0, 2, 34, 7) :: (0, 4, 36, 23) :: (0, 5, 37, 55) :: (0, 6, 38, 119) :: (0, 8, 40, 375) :: (0, 9, 41, 887) :: (0, 10, 42, 1911) :: (2, 3, 35, 1919) :: (2, 7, 39, 2047) :: (2, 11, 43, 4095) :: []) ?_
             iterate 12 (first | refine pV_ HT_ ?_ | refine pT_ HT_ HW_ hHeld ?_)
             refine planEnd_ ?_
             refine one_ (i := 12) (N := some 44) (bm 14 8191) rfl rfl (one_of HT_.out (by kernel_rfl)) (by decide) (fun K hK => ?_)
             refine goesO_ Tryz.func28 #[.agg #[.int .i64 ((rd_T34 l0 x5_3).f0), .int .i64 ((rd_T34 l0 x5_3).f1)], .agg #[.int .i64 ((rd_T34 l0 x4_2).f0), .int .i64 ((rd_T34 l0 x4_2).f1)], .agg #[.int .i64 ((rd_T34 l0 x3_1).f0), .int .i64 ((rd_T34 l0 x3_1).f1)]] ?_
             with_reducible refine (spec_l2Area.calls ((rd_T34 l0 x5_3).f0) ((rd_T34 l0 x5_3).f1) ((rd_T34 l0 x4_2).f0) ((rd_T34 l0 x4_2).f1) ((rd_T34 l0 x3_1).f0) ((rd_T34 l0 x3_1).f1) t107 _ A17.out).mono ?_
             rintro e w22 ⟨rfl, hb⟩
             refine ⟨_, rfl, ?_⟩
             replace HB := aM_ (below_step (bB_ HB) hb)
             (try clear hb)
             refine hK.out _ _ ⟨(hbc_ HB hw104_0), (hbc_ HB hw104_1), (hbc_ HB hw105_0), (hbc_ HB hw105_1), (hbc_ HB hw106_0), (hbc_ HB hw106_1)⟩ (fun hHeld => ?_)
             clear hK K
             refine nrm_ ?_
             refine plan_ ((0, 13, 45, 16383) :: []) ?_
             iterate 1 (first | refine pV_ HT_ ?_)
             refine planEnd_ ?_
             refine done_ (done_of HT_.out (by kernel_rfl)) ?_
             try go_wp2
             go_roundg k3
             case measure => have := HK1.out; have := HK2.out; have := HK3.out; omega
             case rel => exact ⟨(wrap64 (x5_3 + 1)), veq_, H', ⟨by have := HK1.out; have := HK2.out; have := HK3.out; omega⟩, ⟨bB_ HB⟩⟩
           ·have H' := aM_ H
            clear H
            go_wp2
            go_roundg k3
            case measure => have := HK1.out; have := HK2.out; have := HK3.out; omega
            case rel => exact ⟨(wrap64 (x4_2 + 1)), veq_, H', ⟨by have := HK1.out; have := HK2.out; have := HK3.out; omega⟩, ⟨bB_ HB⟩⟩
        ·have H' := aM_ H
         clear H
         go_wp2
         go_roundg k2
         case measure => have := HK1.out; have := HK2.out; omega
         case rel => exact ⟨(wrap64 (x3_1 + 1)), veq_, H', ⟨by have := HK1.out; have := HK2.out; omega⟩, ⟨bB_ HB⟩⟩
     ·replace c7 := Bool.eq_false_iff.mpr c7
      subst c7
      rw [if_neg (show ¬ (false = true) by decide)] at H
      obtain rfl := Option.some.inj H
      have p102 : 0 ≤ (x3_1 : Int) := ode_
      have q102 : x3_1 < (l0.length : Int) := ode_
      obtain ⟨ad102, e102, hx102_0, hx102_1⟩ := at_T34 HR0.out x3_1 p102 q102
      cases e102
      replace hx102_0 := hbc_ HB hx102_0
      replace hx102_1 := hbc_ HB hx102_1
      replace p102 := eq_true p102
      replace q102 := eq_true q102
      go_wp2_with (first | ((with_reducible refine gate_callee (f := 27) rfl ?_); refine goesM_ (some 20) Tryz.func27 #[.agg #[.int .i64 ((rd_T34 l0 x3_1).f0), .int .i64 ((rd_T34 l0 x3_1).f1)], .int .i64 50] ?_; (with_reducible refine (spec_l2Fits.calls ((rd_T34 l0 x3_1).f0) ((rd_T34 l0 x3_1).f1) 50 false _ A6.out).mono ?_); rintro e w23 ⟨rfl, hb⟩; refine ⟨_, rfl, ?_⟩; replace HB := aM_ (below_step (bB_ HB) hb); (try clear hb)))
      go_ret
      exact ⟨verr_, bB_ HB⟩
    ·obtain rfl := Option.some.inj H
     go_wp2
     go_ret
     exact ⟨verr_, bB_ HB⟩
 ·replace c3 := Bool.eq_false_iff.mpr c3
  subst c3
  rw [if_neg (show ¬ (false = true) by decide)] at H
  obtain rfl := Option.some.inj H
  go_enter Tryz.func9, Tryz.ntmps9
  go_wp2_with (first | ((with_reducible refine gate_callee (f := 26) rfl ?_); refine goesM_ (some 8) Tryz.func26 #[.int .i64 (l0.length : Int), .int .i64 3, .int .i64 7] ?_; (with_reducible refine (spec_l1In.calls (l0.length : Int) 3 7 false _ A2.out).mono ?_); rintro e w' ⟨rfl, ⟨nd, rfl⟩⟩; refine ⟨_, rfl, ?_⟩))
  go_ret
  exact ⟨verr_, bB_ HB⟩
end Go.Proofs.YteaagaekdkolnaaGreatDoor.P

namespace Go.Proofs.YteaagaekdkolnaaGreatDoor.P
open Go.RowKit Go.Proofs.YteaagaekdkolnaaGreatDoorW.PrintWords Go.Proofs.YteaagaekdkolnaaGreatDoorW.PrintLast Go.Proofs.YteaagaekdkolnaaGreatDoorW.PrintMore
attribute [local go_sem] max2_int min2_int max_two min_two max_three min_three max_four min_four   -- for this text's walks alone
set_option linter.unusedVariables false
set_option linter.unusedSimpArgs false
/-! ### spec_FormatInt: function 10 -/
def spec_FormatInt.l0 : Nat → Int → Bool → ByteArray → Option (ByteArray)
 | 0, _, _, _ => none
 | k + 1, x0, x3, x4 => if x0 = 0 then (if x3 = true then (if 1 + x4.size ≤ 9223372036854775807 then (some ((⟨#[45]⟩ : ByteArray) ++ x4)) else (none)) else (some x4)) else (if (Int.tmod x0 10) < 0 then ((some (([(wrap64 (48 + (wrap64 (-(Int.tmod x0 10))))) % 256] : List Int) : List Int)).bind fun y101 => (if (strOfNums y101).size + x4.size ≤ 9223372036854775807 then (spec_FormatInt.l0 k (wrap64 (Int.tdiv x0 10)) x3 ((strOfNums y101) ++ x4)) else (none))) else ((some (([(wrap64 (48 + (Int.tmod x0 10))) % 256] : List Int) : List Int)).bind fun y104 => (if (strOfNums y104).size + x4.size ≤ 9223372036854775807 then (spec_FormatInt.l0 k (wrap64 (Int.tdiv x0 10)) x3 ((strOfNums y104) ++ x4)) else (none))))
def spec_FormatInt.f (k : Nat) (a0 : Int) : Option (ByteArray) := if a0 = 0 then (some (⟨#[48]⟩ : ByteArray)) else (spec_FormatInt.l0 k a0 (decide (a0 < 0)) (⟨#[]⟩ : ByteArray))
set_option maxHeartbeats 8000000 in
set_option maxRecDepth 100000 in
theorem spec_FormatInt.calls (k : Nat) (a0 : Int) (r : ByteArray) (w : World) (h : spec_FormatInt.f k a0 = some r) :
  Calls Tryz.prog 10 #[.int .i64 a0] w fun e w' => e = .returned (.string r) ∧ Below w.heap.size w w' := by
 have HB := aM_ (Below.refl w.heap.size w)
 have H : (if a0 = 0 then (some (⟨#[48]⟩ : ByteArray)) else (spec_FormatInt.l0 k a0 (decide (a0 < 0)) (⟨#[]⟩ : ByteArray))) = some r := h
 clear h
 rcases ifc_ H with ⟨c2, H⟩ | ⟨c2, H⟩
 ·have c2b0 : (a0 == 0) = true := beq_iff_eq.mpr c2
  have c2b1 : (a0 != 0) = false := bne_eq_false_iff_eq.mpr c2
  clear c2
  obtain rfl := Option.some.inj H
  go_enter Tryz.func10, Tryz.ntmps10
  go_wp2
  go_ret
  exact ⟨verr_, bB_ HB⟩
 ·have c2b0 : (a0 == 0) = false := beq_eq_false_iff_ne.mpr c2
  have c2b1 : (a0 != 0) = true := bne_iff_ne.mpr c2
  have H' := aM_ H
  clear H
  go_enter Tryz.func10, Tryz.ntmps10
  go_wp2
  generalize decide (a0 < 0) = b3_ at H' ⊢
  go_loopg [0, 4] k (fun kq v0 v4 w' => ∃ (x0_1 : Int) (x4_1 : ByteArray), v0 = .int .i64 x0_1 ∧ v4 = .string x4_1 ∧ Aside0 (spec_FormatInt.l0 kq x0_1 b3_ x4_1 = some r) ∧ Aside0 (kq ≤ k) ∧ Aside0 (Below w.heap.size w w'))
  case atStart => exact ⟨(a0), ((⟨#[]⟩ : ByteArray)), veq_, veq_, H', ⟨Nat.le_refl _⟩, ⟨bB_ HB⟩⟩
  case round =>
   clear H'
   try clear c2
   try clear c2b0
   try clear c2b1
   obtain ⟨x0_1, x4_1, rfl, rfl, HA, HK1, HB⟩ := hrel
   cases gk with
   | zero => exact absurd HA.out (by simp [spec_FormatInt.l0])
   | succ k1 =>
    have H := HA.out
    clear HA
    simp only [spec_FormatInt.l0] at H
    rcases ifc_ H with ⟨c3, H⟩ | ⟨c3, H⟩
    ·have c3b0 : (x0_1 == 0) = true := beq_iff_eq.mpr c3
     have c3b1 : (x0_1 != 0) = false := bne_eq_false_iff_eq.mpr c3
     clear c3
     rcases ifc_ H with ⟨c4, H⟩ | ⟨c4, H⟩
     ·subst c4
      obtain ⟨c5, H⟩ := ifp_ H
      have c5b0 := eq_true c5
      have c5b1 := decide_eq_true c5
      try have c5b2 : (9223372036854775807 < 1 + x4_1.size) = False := eq_false (Nat.not_lt.2 c5)
      obtain rfl := Option.some.inj H
      go_wp2
      go_ret
      exact ⟨verr_, bB_ HB⟩
     ·obtain rfl : b3_ = false := by simpa using c4
      clear c4
      obtain rfl := Option.some.inj H
      go_wp2
      go_ret
      exact ⟨verr_, bB_ HB⟩
    ·have c3b0 : (x0_1 == 0) = false := beq_eq_false_iff_ne.mpr c3
     have c3b1 : (x0_1 != 0) = true := bne_iff_ne.mpr c3
     rcases ifd_ H with ⟨c6b0, H⟩ | ⟨c6b0, H⟩
     ·obtain ⟨y101, hy101⟩ : ∃ y_ : List Int, y_ = (([(wrap64 (48 + (wrap64 (-(Int.tmod x0_1 10))))) % 256] : List Int)) := ⟨_, rfl⟩
      replace H : (if (strOfNums y101).size + x4_1.size ≤ 9223372036854775807 then (spec_FormatInt.l0 k1 (wrap64 (Int.tdiv x0_1 10)) b3_ ((strOfNums y101) ++ x4_1)) else (none)) = some r := by first | (rw [hy101]; with_reducible exact H) | (have H2_ := (Option.bind_some _ _).symm.trans H; rw [hy101]; with_reducible exact H2_) | (have H2_ := (Option.bind_some _ _).symm.trans H; with_reducible exact H2_) | with_reducible exact H | (rw [hy101]; exact H) | exact H
      have Ny101 := aM_ hy101
      clear hy101
      obtain ⟨c7, H⟩ := ifp_ H
      have c7b0 := eq_true c7
      have c7b1 := decide_eq_true c7
      try have c7b2 : (9223372036854775807 < (strOfNums y101).size + x4_1.size) = False := eq_false (Nat.not_lt.2 c7)
      have H' := aM_ H
      clear H
      go_wp2_with (first | ((with_reducible refine gate_dst (N := 21) rfl ?_); refine Kd.R_lit (Kd.int .u8) _ 5 ?hg (N := 21) ?hd (xs := ([(wrap64 (48 + (wrap64 (-(Int.tmod x0_1 10))))) % 256] : List Int)) (inner := [.int .u8 ((wrap64 (48 + (wrap64 (-(Int.tmod x0_1 10))))) % 256)]) (ok := fun _ => True) (okp := fun _ => True) ?hr ?hp (fun _ hk => hk) trivial (Below.refl _ _) (Nat.le_refl _) (by simp) ?_; (case hd => rfl); (case hg => rfl); (case hr => first | (go_simp; done) | (go_simp; rfl)); (case hp => exact (Reps.one (show Kd.M (Kd.int .u8) _ _ _ ((wrap64 (48 + (wrap64 (-(Int.tmod x0_1 10))))) % 256) [.int .u8 ((wrap64 (48 + (wrap64 (-(Int.tmod x0_1 10))))) % 256)] from rfl) (Reps.none _ _))); intro v102 w8 ho9 hb hg_ hnew_; clear hg_ hnew_; (first | rw [← Ny101.out] at ho9 | (simp only [Int.reduceToNat] at ho9; rw [← Ny101.out] at ho9)); have HO103 := aM_ (Kd.R_lower ho9 (below_size (bB_ HB))); replace HB := aM_ (below_step (bB_ HB) hb); clear hb ho9; have hcv10 := own_string (P := Tryz.prog) Tryz.underlying43 Tryz.underlying5 Tryz.underlying9 (Kd.own_of_R HO103.out)))
      go_roundg k1
      case measure => have := HK1.out; omega
      case rel => exact ⟨(wrap64 (Int.tdiv x0_1 10)), ((strOfNums y101) ++ x4_1), veq_, veq_, H', ⟨by have := HK1.out; omega⟩, ⟨bB_ HB⟩⟩
     ·obtain ⟨y104, hy104⟩ : ∃ y_ : List Int, y_ = (([(wrap64 (48 + (Int.tmod x0_1 10))) % 256] : List Int)) := ⟨_, rfl⟩
      replace H : (if (strOfNums y104).size + x4_1.size ≤ 9223372036854775807 then (spec_FormatInt.l0 k1 (wrap64 (Int.tdiv x0_1 10)) b3_ ((strOfNums y104) ++ x4_1)) else (none)) = some r := by first | (rw [hy104]; with_reducible exact H) | (have H2_ := (Option.bind_some _ _).symm.trans H; rw [hy104]; with_reducible exact H2_) | (have H2_ := (Option.bind_some _ _).symm.trans H; with_reducible exact H2_) | with_reducible exact H | (rw [hy104]; exact H) | exact H
      have Ny104 := aM_ hy104
      clear hy104
      obtain ⟨c11, H⟩ := ifp_ H
      have c11b0 := eq_true c11
      have c11b1 := decide_eq_true c11
      try have c11b2 : (9223372036854775807 < (strOfNums y104).size + x4_1.size) = False := eq_false (Nat.not_lt.2 c11)
      have H' := aM_ H
      clear H
      go_wp2_with (first | ((with_reducible refine gate_dst (N := 21) rfl ?_); refine Kd.R_lit (Kd.int .u8) _ 5 ?hg (N := 21) ?hd (xs := ([(wrap64 (48 + (Int.tmod x0_1 10))) % 256] : List Int)) (inner := [.int .u8 ((wrap64 (48 + (Int.tmod x0_1 10))) % 256)]) (ok := fun _ => True) (okp := fun _ => True) ?hr ?hp (fun _ hk => hk) trivial (Below.refl _ _) (Nat.le_refl _) (by simp) ?_; (case hd => rfl); (case hg => rfl); (case hr => first | (go_simp; done) | (go_simp; rfl)); (case hp => exact (Reps.one (show Kd.M (Kd.int .u8) _ _ _ ((wrap64 (48 + (Int.tmod x0_1 10))) % 256) [.int .u8 ((wrap64 (48 + (Int.tmod x0_1 10))) % 256)] from rfl) (Reps.none _ _))); intro v105 w12 ho13 hb hg_ hnew_; clear hg_ hnew_; (first | rw [← Ny104.out] at ho13 | (simp only [Int.reduceToNat] at ho13; rw [← Ny104.out] at ho13)); have HO106 := aM_ (Kd.R_lower ho13 (below_size (bB_ HB))); replace HB := aM_ (below_step (bB_ HB) hb); clear hb ho13; have hcv14 := own_string (P := Tryz.prog) Tryz.underlying43 Tryz.underlying5 Tryz.underlying9 (Kd.own_of_R HO106.out)))
      go_roundg k1
      case measure => have := HK1.out; omega
      case rel => exact ⟨(wrap64 (Int.tdiv x0_1 10)), ((strOfNums y104) ++ x4_1), veq_, veq_, H', ⟨by have := HK1.out; omega⟩, ⟨bB_ HB⟩⟩
end Go.Proofs.YteaagaekdkolnaaGreatDoor.P

namespace Go.Proofs.YteaagaekdkolnaaGreatDoor.P
open Go.RowKit Go.Proofs.YteaagaekdkolnaaGreatDoorW.PrintWords Go.Proofs.YteaagaekdkolnaaGreatDoorW.PrintLast Go.Proofs.YteaagaekdkolnaaGreatDoorW.PrintMore
attribute [local go_sem] max2_int min2_int max_two min_two max_three min_three max_four min_four   -- for this text's walks alone
set_option linter.unusedVariables false
set_option linter.unusedSimpArgs false
/-! ### spec_l3Byte: function 46 -/
def spec_l3Byte.f (a0 : Int) : Option (ByteArray) := if a0 > 0 then (some (⟨#[43]⟩ : ByteArray)) else (some (⟨#[45]⟩ : ByteArray))
set_option maxHeartbeats 8000000 in
set_option maxRecDepth 100000 in
theorem spec_l3Byte.calls (a0 : Int) (r : ByteArray) (w : World) (h : spec_l3Byte.f a0 = some r) :
  Calls Tryz.prog 46 #[.int .i64 a0] w fun e w' => e = .returned (.string r) ∧ Drawn0 w w' := by
 have H : (if a0 > 0 then (some (⟨#[43]⟩ : ByteArray)) else (some (⟨#[45]⟩ : ByteArray))) = some r := h
 clear h
 rcases ifd_ H with ⟨c2b0, H⟩ | ⟨c2b0, H⟩
 ·obtain rfl := Option.some.inj H
  go_enter Tryz.func46, Tryz.ntmps46
  go_wp2
  go_ret
  exact ⟨veq_, by repeat (first | exact Drawn0.refl _ | apply Drawn0.step)⟩
 ·obtain rfl := Option.some.inj H
  go_enter Tryz.func46, Tryz.ntmps46
  go_wp2
  go_ret
  exact ⟨veq_, by repeat (first | exact Drawn0.refl _ | apply Drawn0.step)⟩
end Go.Proofs.YteaagaekdkolnaaGreatDoor.P

namespace Go.Proofs.YteaagaekdkolnaaGreatDoor.P
open Go.RowKit Go.Proofs.YteaagaekdkolnaaGreatDoorW.PrintWords Go.Proofs.YteaagaekdkolnaaGreatDoorW.PrintLast Go.Proofs.YteaagaekdkolnaaGreatDoorW.PrintMore
attribute [local go_sem] max2_int min2_int max_two min_two max_three min_three max_four min_four   -- for this text's walks alone
set_option linter.unusedVariables false
set_option linter.unusedSimpArgs false
/-! ### spec_SignsOf: function 29 -/
mutual
def spec_SignsOf.l0 : Nat → List (S34) → Int → Int → ByteArray → Option (Int × ByteArray × Bool)
 | 0, _, _, _, _ => none
 | k + 1, x0, x5, x104000, x104001 => if x5 < (x0.length : Int) then (spec_SignsOf.l1 k x0 x5 (wrap64 (x5 + 1)) x104000 x104001) else (some (x104000, x104001, true))
def spec_SignsOf.l1 : Nat → List (S34) → Int → Int → Int → ByteArray → Option (Int × ByteArray × Bool)
 | 0, _, _, _, _, _ => none
 | k + 1, x0, x5, x6, x104000, x104001 => if x6 < (x0.length : Int) then (spec_SignsOf.l2 k x0 x5 x6 (wrap64 (x6 + 1)) x104000 x104001) else (spec_SignsOf.l0 k x0 (wrap64 (x5 + 1)) x104000 x104001)
def spec_SignsOf.l2 : Nat → List (S34) → Int → Int → Int → Int → ByteArray → Option (Int × ByteArray × Bool)
 | 0, _, _, _, _, _, _ => none
 | k + 1, x0, x5, x6, x7, x104000, x104001 => if x7 < (x0.length : Int) then (if 0 ≤ x5 then (if x5 < (x0.length : Int) then (if 0 ≤ x6 then (if x6 < (x0.length : Int) then (if 0 ≤ x7 then ((spec_l2Area.f ((rd_T34 x0 x5).f0) ((rd_T34 x0 x5).f1) ((rd_T34 x0 x6).f0) ((rd_T34 x0 x6).f1) ((rd_T34 x0 x7).f0) ((rd_T34 x0 x7).f1)).bind fun t107 => ((spec_l3Byte.f t107).bind fun t108 => (if x104001.size + t108.size ≤ 9223372036854775807 then (spec_SignsOf.l2 k x0 x5 x6 (wrap64 (x7 + 1)) x104000 (x104001 ++ t108)) else (none)))) else (none)) else (none)) else (none)) else (none)) else (none)) else (spec_SignsOf.l1 k x0 x5 (wrap64 (x6 + 1)) x104000 x104001)
end
def spec_SignsOf.f (k : Nat) (l0 : List (S34)) : Option (Int × ByteArray × Bool) := (spec_ArePoints.f k l0).bind fun t102 => (if t102 = true then (spec_SignsOf.l0 k l0 0 (l0.length : Int) (⟨#[]⟩ : ByteArray)) else (some (0, (⟨#[]⟩ : ByteArray), false)))
def spec_SignsOf.T13 : Bool × List (List Nat × List Nat) := (true, [([], []), ([0], [0]), ([], []), ([], []), ([2, 3], [2, 3]), ([4], [4]), ([], []), ([], []), ([6, 7], [6, 7]), ([8], [8]), ([], []), ([], []), ([10, 11], [10, 11]), ([12], [12]), ([5, 9, 13], [5, 9, 13]), ([14, 14], [14]), ([1, 15], [1, 15]), ([0, 1, 2, 3, 4, 5, 6, 7, 8, 9, 10, 11, 12, 13, 14, 15, 16], []), ([17, 16, 15, 0, 1, 2, 3, 4, 5, 6, 7, 8, 9, 10, 11, 12, 13, 14, 15, 16], [16, 17])])
def spec_SignsOf.B13 : List Nat := [0, 1, 0, 0, 12, 28, 0, 0, 192, 448, 0, 0, 3072, 7168, 16380, 32764, 65535, 131071, 262143]
theorem spec_SignsOf.tab13 : rtab .any (opsOf Tryz.f29 13) = spec_SignsOf.T13 := by kernel_rfl
theorem spec_SignsOf.bits13 : waitsOk spec_SignsOf.T13.2 spec_SignsOf.B13 = true := by kernel_rfl
set_option maxHeartbeats 8000000 in
set_option maxRecDepth 100000 in
theorem spec_SignsOf.calls (k : Nat) (A0 : Option Addr) (c0 : Nat) (l0 : List (S34)) (r1 : Int) (r2 : ByteArray) (r3 : Bool) (w : World) (hr0 : Kd.C k34 w A0 l0.length l0) (hc0 : l0.length ≤ c0) (h : spec_SignsOf.f k l0 = some (r1, r2, r3)) :
  Calls Tryz.prog 29 #[.slice A0 l0.length c0] w fun e w' => e = .returned (.tuple #[.agg #[.int .i64 r1, .string r2], .bool r3]) ∧ Below w.heap.size w w' := by
 have hu45 := Tryz.underlying45
 have hu34 := Tryz.underlying34
 have HR0 := aM_ hr0
 have HC0 := aM_ hc0
 clear hr0 hc0
 have HB := aM_ (Below.refl w.heap.size w)
 have H : ((spec_ArePoints.f k l0).bind fun t102 => (if t102 = true then (spec_SignsOf.l0 k l0 0 (l0.length : Int) (⟨#[]⟩ : ByteArray)) else (some (0, (⟨#[]⟩ : ByteArray), false)))) = some (r1, r2, r3) := h
 clear h
 replace H := oB_ H
 obtain ⟨t102, A20, H⟩ := H
 replace H : (if t102 = true then (spec_SignsOf.l0 k l0 0 (l0.length : Int) (⟨#[]⟩ : ByteArray)) else (some (0, (⟨#[]⟩ : ByteArray), false))) = some (r1, r2, r3) := H
 have A2 := aM_ A20
 clear A20
 by_cases c3 : t102 = true
 ·subst c3
  rw [if_pos rfl] at H
  have H' := aM_ H
  clear H
  go_enter Tryz.func29, Tryz.ntmps29
  go_wp2_with (first | ((with_reducible refine gate_dst (N := 2) rfl ?_); refine boxE_ (N := 2) #[.int .i64 0, .string (⟨#[]⟩ : ByteArray)] 45 ?_; intro gb101 hg w4 hbox hb; have BK101 := aM_ (hbox); have GW101 := aM_ ((bs_ HB hg)); have GE101 := aM_ ((bs_ HB hg)); replace HB := aM_ (below_step (bB_ HB) hb); clear hb hbox hg) | ((with_reducible refine gate_callee (f := 9) rfl ?_); refine goesM_ (some 9) Tryz.func9 #[.slice A0 l0.length c0] ?_; (with_reducible refine (spec_ArePoints.calls k _ _ l0 true _ ?side1 ?side2 A2.out).mono ?_); (case side1 => repeat (first | exact (Kd.C_below HR0.out HB.out) | (with_reducible refine Kd.C_alloc ?_ _) | (with_reducible refine Kd.C_drewN ?_ _) | (with_reducible refine Kd.C_drew ?_))); (case side2 => exact HC0.out); rintro e w5 ⟨rfl, hb⟩; refine ⟨_, rfl, ?_⟩; replace BK101 := aM_ (bkb_ BK101 hb); replace HB := aM_ (below_step (bB_ HB) hb); (try clear hb)) | ((with_reducible refine gate_dst (N := 4) rfl ?_); refine boxE_ (N := 4) #[.int .i64 0, .string (⟨#[]⟩ : ByteArray)] 45 ?_; intro gb103 hg w6 hbox hb; have BK103 := aM_ (hbox); have GW103 := aM_ ((bs_ HB hg)); have GE103 := aM_ ((bs_ HB hg)); replace HB := aM_ (below_step (bB_ HB) hb); have NB101_103 := aM_ ((bnl_ BK101 hg)); have NB103_101 := aM_ ((bng_ BK101 hg)); replace BK101 := aM_ (bkb_ BK101 hb); clear hb hbox hg; have hnb7 := NB103_101.out; have hnc7 := NB101_103.out; have hcz8_0 := bc_ BK103 0; have hcz8_1 := bc_ BK103 1; have hfz8_0 := blk_frozen BK103.out 0; have hfz8_1 := blk_frozen BK103.out 1))
  go_loopg [5] k (fun kq v5 w' => ∃ (x5_1 : Int) (x104001_1 : ByteArray), v5 = .int .i64 x5_1 ∧ Aside0 (spec_SignsOf.l0 kq l0 x5_1 (l0.length : Int) x104001_1 = some (r1, r2, r3)) ∧ Aside0 (kq ≤ k) ∧ Aside0 (w'.heap[gb101]? = some (.cells #[.int .i64 0, .string (⟨#[]⟩ : ByteArray)] 45 (0, 0))) ∧ Aside0 (w'.heap[gb103]? = some (.cells #[.int .i64 (l0.length : Int), .string x104001_1] 45 (0, 0))) ∧ Aside0 (Below w.heap.size w w'))
  case atStart => exact ⟨(0), ((⟨#[]⟩ : ByteArray)), veq_, H', ⟨Nat.le_refl _⟩, ⟨by (with_reducible repeat (first | refine blk_drewN ?_ _ | refine blk_drew ?_ | refine blk_alloc ?_ _)); refine blk_far ?_ NB101_103.out _; (with_reducible repeat (first | refine blk_drewN ?_ _ | refine blk_drew ?_ | refine blk_alloc ?_ _)); refine blk_far ?_ NB101_103.out _; (with_reducible repeat (first | refine blk_drewN ?_ _ | refine blk_drew ?_ | refine blk_alloc ?_ _)); exact BK101.out⟩, ⟨by (with_reducible repeat (first | refine blk_drewN ?_ _ | refine blk_drew ?_ | refine blk_alloc ?_ _)); refine blk_put (cs := #[.int .i64 (l0.length : Int), .string (⟨#[]⟩ : ByteArray)]) ?_ 1 _ rfl; (with_reducible repeat (first | refine blk_drewN ?_ _ | refine blk_drew ?_ | refine blk_alloc ?_ _)); refine blk_put (cs := #[.int .i64 0, .string (⟨#[]⟩ : ByteArray)]) ?_ 0 _ rfl; (with_reducible repeat (first | refine blk_drewN ?_ _ | refine blk_drew ?_ | refine blk_alloc ?_ _)); exact BK103.out⟩, ⟨bB_ HB⟩⟩
  case round =>
   clear H'
   try clear c3
   try clear hcz8_0
   try clear hcz8_1
   try clear hfz8_0
   try clear hfz8_1
   obtain ⟨x5_1, x104001_1, rfl, HA, HK1, BK101, BK103, HB⟩ := hrel
   cases gk with
   | zero => exact absurd HA.out (by simp [spec_SignsOf.l0])
   | succ k1 =>
    have H := HA.out
    clear HA
    simp only [spec_SignsOf.l0] at H
    rcases ifd_ H with ⟨c9b0, H⟩ | ⟨c9b0, H⟩
    ·have H' := aM_ H
     clear H
     go_wp2
     go_loopg [6] k1 (fun kq v6 w' => ∃ (x6_2 : Int) (x104001_2 : ByteArray), v6 = .int .i64 x6_2 ∧ Aside0 (spec_SignsOf.l1 kq l0 x5_1 x6_2 (l0.length : Int) x104001_2 = some (r1, r2, r3)) ∧ Aside0 (kq ≤ k1) ∧ Aside0 (w'.heap[gb101]? = some (.cells #[.int .i64 0, .string (⟨#[]⟩ : ByteArray)] 45 (0, 0))) ∧ Aside0 (w'.heap[gb103]? = some (.cells #[.int .i64 (l0.length : Int), .string x104001_2] 45 (0, 0))) ∧ Aside0 (Below w.heap.size w w'))
     case atStart => exact ⟨(wrap64 (x5_1 + 1)), (x104001_1), veq_, H', ⟨Nat.le_refl _⟩, ⟨bk_ BK101⟩, ⟨bk_ BK103⟩, ⟨bB_ HB⟩⟩
     case round =>
      clear H'
      try clear c3
      try clear c9b0
      try clear hcz8_0
      try clear hcz8_1
      try clear hfz8_0
      try clear hfz8_1
      obtain ⟨x6_2, x104001_2, rfl, HA, HK2, BK101, BK103, HB⟩ := hrel
      cases gk with
      | zero => exact absurd HA.out (by simp [spec_SignsOf.l1])
      | succ k2 =>
       have H := HA.out
       clear HA
       simp only [spec_SignsOf.l1] at H
       rcases ifd_ H with ⟨c10b0, H⟩ | ⟨c10b0, H⟩
       ·have H' := aM_ H
        clear H
        go_wp2
        go_loopg [7] k2 (fun kq v7 w' => ∃ (x7_3 : Int) (x104001_3 : ByteArray), v7 = .int .i64 x7_3 ∧ Aside0 (spec_SignsOf.l2 kq l0 x5_1 x6_2 x7_3 (l0.length : Int) x104001_3 = some (r1, r2, r3)) ∧ Aside0 (kq ≤ k2) ∧ Aside0 (w'.heap[gb101]? = some (.cells #[.int .i64 0, .string (⟨#[]⟩ : ByteArray)] 45 (0, 0))) ∧ Aside0 (w'.heap[gb103]? = some (.cells #[.int .i64 (l0.length : Int), .string x104001_3] 45 (0, 0))) ∧ Aside0 (Below w.heap.size w w'))
        case atStart => exact ⟨(wrap64 (x6_2 + 1)), (x104001_2), veq_, H', ⟨Nat.le_refl _⟩, ⟨bk_ BK101⟩, ⟨bk_ BK103⟩, ⟨bB_ HB⟩⟩
        case round =>
         clear H'
         try clear c3
         try clear c9b0
         try clear c10b0
         try clear hcz8_0
         try clear hcz8_1
         try clear hfz8_0
         try clear hfz8_1
         obtain ⟨x7_3, x104001_3, rfl, HA, HK3, BK101, BK103, HB⟩ := hrel
         cases gk with
         | zero => exact absurd HA.out (by simp [spec_SignsOf.l2])
         | succ k3 =>
          have H := HA.out
          clear HA
          simp only [spec_SignsOf.l2] at H
          rcases ifd_ H with ⟨c11b0, H⟩ | ⟨c11b0, H⟩
          ·obtain ⟨c12b0, H⟩ := ifn_ H
           obtain ⟨c13b0, H⟩ := ifn_ H
           obtain ⟨c14b0, H⟩ := ifn_ H
           obtain ⟨c15b0, H⟩ := ifn_ H
           obtain ⟨c16b0, H⟩ := ifn_ H
           replace H := oB_ H
           obtain ⟨t107, A170, H⟩ := H
           replace H : ((spec_l3Byte.f t107).bind fun t108 => (if x104001_3.size + t108.size ≤ 9223372036854775807 then (spec_SignsOf.l2 k3 l0 x5_1 x6_2 (wrap64 (x7_3 + 1)) (l0.length : Int) (x104001_3 ++ t108)) else (none))) = some (r1, r2, r3) := H
           have A17 := aM_ A170
           clear A170
           replace H := oB_ H
           obtain ⟨t108, A180, H⟩ := H
           replace H : (if x104001_3.size + t108.size ≤ 9223372036854775807 then (spec_SignsOf.l2 k3 l0 x5_1 x6_2 (wrap64 (x7_3 + 1)) (l0.length : Int) (x104001_3 ++ t108)) else (none)) = some (r1, r2, r3) := H
           have A18 := aM_ A180
           clear A180
           obtain ⟨c19, H⟩ := ifp_ H
           have c19b0 := eq_true c19
           have c19b1 := decide_eq_true c19
           try have c19b2 : (9223372036854775807 < x104001_3.size + t108.size) = False := eq_false (Nat.not_lt.2 c19)
           have H' := aM_ H
           clear H
           try go_wp2
           replace BK101 := aM_ (blk_drew BK101.out)
           replace BK103 := aM_ (blk_drew BK103.out)
           replace HB := aM_ (bD_ HB.out)
           have p104 : 0 ≤ (x5_1 : Int) := ode_
           have q104 : x5_1 < (l0.length : Int) := ode_
           obtain ⟨ad104, e104, hx104_0, hx104_1⟩ := at_T34 HR0.out x5_1 p104 q104
           have hw104_1 := hx104_1
           have hw104_0 := hx104_0
           cases e104
           replace hx104_0 := hbc_ HB hx104_0
           replace hx104_1 := hbc_ HB hx104_1
           replace p104 := eq_true p104
           replace q104 := eq_true q104
           have p105 : 0 ≤ (x6_2 : Int) := ode_
           have q105 : x6_2 < (l0.length : Int) := ode_
           obtain ⟨ad105, e105, hx105_0, hx105_1⟩ := at_T34 HR0.out x6_2 p105 q105
           have hw105_1 := hx105_1
           have hw105_0 := hx105_0
           obtain rfl : ad104 = ad105 := (by injection e105)
           replace hx105_0 := hbc_ HB hx105_0
           replace hx105_1 := hbc_ HB hx105_1
           replace p105 := eq_true p105
           replace q105 := eq_true q105
           have p106 : 0 ≤ (x7_3 : Int) := ode_
           have q106 : x7_3 < (l0.length : Int) := ode_
           obtain ⟨ad106, e106, hx106_0, hx106_1⟩ := at_T34 HR0.out x7_3 p106 q106
           have hw106_1 := hx106_1
           have hw106_0 := hx106_0
           obtain rfl : ad104 = ad106 := (by injection e106)
           replace hx106_0 := hbc_ HB hx106_0
           replace hx106_1 := hbc_ HB hx106_1
           replace p106 := eq_true p106
           replace q106 := eq_true q106
           refine start_ (n := 19) (S := fun w' => w'.cell? ⟨gb103, 0, none⟩ = some (.int .i64 (l0.length : Int)) ∧ w'.cell? ⟨gb103, 1, none⟩ = some (.string x104001_3) ∧ w'.cell? (ad104.add ((x5_1).toNat * 2)) = some (.int .i64 ((rd_T34 l0 x5_1).f0)) ∧ w'.cell? ⟨(ad104.add ((x5_1).toNat * 2)).block, (ad104.add ((x5_1).toNat * 2)).off + 1, none⟩ = some (.int .i64 ((rd_T34 l0 x5_1).f1)) ∧ w'.cell? (ad104.add ((x6_2).toNat * 2)) = some (.int .i64 ((rd_T34 l0 x6_2).f0)) ∧ w'.cell? ⟨(ad104.add ((x6_2).toNat * 2)).block, (ad104.add ((x6_2).toNat * 2)).off + 1, none⟩ = some (.int .i64 ((rd_T34 l0 x6_2).f1)) ∧ w'.cell? (ad104.add ((x7_3).toNat * 2)) = some (.int .i64 ((rd_T34 l0 x7_3).f0)) ∧ w'.cell? ⟨(ad104.add ((x7_3).toNat * 2)).block, (ad104.add ((x7_3).toNat * 2)).off + 1, none⟩ = some (.int .i64 ((rd_T34 l0 x7_3).f1))) (ds := [18]) (bm 19 0) (by kernel_rfl) rfl rfl ⟨bc_ BK103 0, bc_ BK103 1, (hbc_ HB hw104_0), (hbc_ HB hw104_1), (hbc_ HB hw105_0), (hbc_ HB hw105_1), (hbc_ HB hw106_0), (hbc_ HB hw106_1)⟩ (fun hHeld => ?_); refine with_tabW spec_SignsOf.tab13 spec_SignsOf.bits13 (fun HT_ HW_ => ?_)
           generalize wr.drew = w20 at BK101 BK103 HB hx104_0 hx104_1 hx105_0 hx105_1 hx106_0 hx106_1 hHeld ⊢
           refine plan_ ((0, 0, 37, 1) :: (0, 2, 39, 5) :: (0, 3, 40, 13) :: (0, 4, 41, 29) :: (0, 6, 43, 93) :: (0, 7, 44, 221) :: (0, 8, 45, 477) :: (0, 10, 47, 1501) :: (0, 11, 48, 3549) :: (0, 12, 49, 7645) :: (2, 1, 38, 7647) :: (2, 5, 42, 7679) :: (2, 9, 46, 8191) :: (2, 13, 50, 16383) :: []) ?_
           iterate 14 (first | refine pV_ HT_ ?_ | refine pT_ HT_ HW_ hHeld ?_)
           refine planEnd_ ?_
           refine one_ (i := 14) (N := some 51) (bm 19 32767) rfl rfl (one_of HT_.out (by kernel_rfl)) (by decide) (fun K hK => ?_)
           refine goesO_ Tryz.func28 #[.agg #[.int .i64 ((rd_T34 l0 x5_1).f0), .int .i64 ((rd_T34 l0 x5_1).f1)], .agg #[.int .i64 ((rd_T34 l0 x6_2).f0), .int .i64 ((rd_T34 l0 x6_2).f1)], .agg #[.int .i64 ((rd_T34 l0 x7_3).f0), .int .i64 ((rd_T34 l0 x7_3).f1)]] ?_
           with_reducible refine (spec_l2Area.calls ((rd_T34 l0 x5_1).f0) ((rd_T34 l0 x5_1).f1) ((rd_T34 l0 x6_2).f0) ((rd_T34 l0 x6_2).f1) ((rd_T34 l0 x7_3).f0) ((rd_T34 l0 x7_3).f1) t107 _ A17.out).mono ?_
           rintro e w21 ⟨rfl, hb⟩
           refine ⟨_, rfl, ?_⟩
           replace BK101 := aM_ (bkb_ BK101 hb)
           replace BK103 := aM_ (bkb_ BK103 hb)
           replace HB := aM_ (below_step (bB_ HB) hb)
           (try clear hb)
           refine hK.out _ _ ⟨bc_ BK103 0, bc_ BK103 1, (hbc_ HB hw104_0), (hbc_ HB hw104_1), (hbc_ HB hw105_0), (hbc_ HB hw105_1), (hbc_ HB hw106_0), (hbc_ HB hw106_1)⟩ (fun hHeld => ?_)
           clear hK K
           refine nrm_ ?_
           refine one_ (i := 15) (N := some 52) (bm 19 65535) rfl rfl (one_of HT_.out (by kernel_rfl)) (by decide) (fun K hK => ?_)
           refine goesO_ Tryz.func46 #[.int .i64 t107] ?_
           with_reducible refine (spec_l3Byte.calls t107 t108 _ A18.out).mono ?_
           rintro e w' ⟨rfl, ⟨nd, rfl⟩⟩
           refine ⟨_, rfl, ?_⟩
           refine hK.out _ _ ⟨bc_ BK103 0, bc_ BK103 1, (hbc_ HB hw104_0), (hbc_ HB hw104_1), (hbc_ HB hw105_0), (hbc_ HB hw105_1), (hbc_ HB hw106_0), (hbc_ HB hw106_1)⟩ (fun hHeld => ?_)
           clear hK K
           refine nrm_ ?_
           refine plan_ ((0, 16, 53, 131071) :: (0, 17, 54, 262143) :: []) ?_
           iterate 2 (first | refine pV_ HT_ ?_)
           refine planEnd_ ?_
           refine last_ (i := 18) (N := none) (bm 19 524287) rfl rfl (one_of HT_.out (by kernel_rfl)) (by decide) (fun K hK => ?_)
           have hs22 : w21.cell? ⟨gb103, 1, none⟩ = some (.string x104001_3) := bc_ BK103 1
           have hfs22 := blk_frozen BK103.out 1
           have hns22_0 := NB101_103.out
           have hms22_0 := NB103_101.out
           refine skip_ (w1 := ?_) (by rfl) rfl ?_ ?_
           rotate_left
           ·go_simp
            rfl
           refine hK.out _ _ ?_
           clear hK K
           refine done_ (done_of HT_.out (by kernel_rfl)) ?_
           try go_wp2
           go_roundg k3
           case measure => have := HK1.out; have := HK2.out; have := HK3.out; omega
           case rel => exact ⟨(wrap64 (x7_3 + 1)), (x104001_3 ++ t108), veq_, H', ⟨by have := HK1.out; have := HK2.out; have := HK3.out; omega⟩, ⟨by (with_reducible repeat (first | refine blk_drewN ?_ _ | refine blk_drew ?_ | refine blk_alloc ?_ _)); refine blk_far ?_ NB101_103.out _; (with_reducible repeat (first | refine blk_drewN ?_ _ | refine blk_drew ?_ | refine blk_alloc ?_ _)); exact BK101.out⟩, ⟨by (with_reducible repeat (first | refine blk_drewN ?_ _ | refine blk_drew ?_ | refine blk_alloc ?_ _)); refine blk_put (cs := #[.int .i64 (l0.length : Int), .string x104001_3]) ?_ 1 _ rfl; (with_reducible repeat (first | refine blk_drewN ?_ _ | refine blk_drew ?_ | refine blk_alloc ?_ _)); exact BK103.out⟩, ⟨bB_ HB⟩⟩
          ·have H' := aM_ H
           clear H
           go_wp2
           go_roundg k3
           case measure => have := HK1.out; have := HK2.out; have := HK3.out; omega
           case rel => exact ⟨(wrap64 (x6_2 + 1)), (x104001_3), veq_, H', ⟨by have := HK1.out; have := HK2.out; have := HK3.out; omega⟩, ⟨bk_ BK101⟩, ⟨bk_ BK103⟩, ⟨bB_ HB⟩⟩
       ·have H' := aM_ H
        clear H
        go_wp2
        go_roundg k2
        case measure => have := HK1.out; have := HK2.out; omega
        case rel => exact ⟨(wrap64 (x5_1 + 1)), (x104001_2), veq_, H', ⟨by have := HK1.out; have := HK2.out; omega⟩, ⟨bk_ BK101⟩, ⟨bk_ BK103⟩, ⟨bB_ HB⟩⟩
    ·simp only [Option.some.injEq, Prod.mk.injEq] at H
     obtain ⟨rfl, rfl, rfl⟩ := H
     have hnb23 := NB103_101.out
     have hnc23 := NB101_103.out
     have hcz24_0 := bc_ BK103 0
     have hcz24_1 := bc_ BK103 1
     have hfz24_0 := blk_frozen BK103.out 0
     have hfz24_1 := blk_frozen BK103.out 1
     have hcz25_0 := bc_ BK101 0
     have hcz25_1 := bc_ BK101 1
     have hfz25_0 := blk_frozen BK101.out 0
     have hfz25_1 := blk_frozen BK101.out 1
     go_wp2
     refine bodyPost_ret (results_ct rfl _ _ gb101 45 #[.int .i64 (l0.length : Int), .string x104001_1] (0, 0) _ rfl (by (with_reducible repeat (first | refine blk_drewN ?_ _ | refine blk_drew ?_ | refine blk_alloc ?_ _)); refine blk_put (cs := #[.int .i64 (l0.length : Int), .string (⟨#[]⟩ : ByteArray)]) ?_ 1 _ rfl; (with_reducible repeat (first | refine blk_drewN ?_ _ | refine blk_drew ?_ | refine blk_alloc ?_ _)); refine blk_put (cs := #[.int .i64 0, .string (⟨#[]⟩ : ByteArray)]) ?_ 0 _ rfl; (with_reducible repeat (first | refine blk_drewN ?_ _ | refine blk_drew ?_ | refine blk_alloc ?_ _)); exact BK101.out) Tryz.underlying45 rfl (by kernel_rfl)) rfl ?_
     exact ⟨verr_, bB_ HB⟩
 ·replace c3 := Bool.eq_false_iff.mpr c3
  subst c3
  rw [if_neg (show ¬ (false = true) by decide)] at H
  simp only [Option.some.injEq, Prod.mk.injEq] at H
  obtain ⟨rfl, rfl, rfl⟩ := H
  go_enter Tryz.func29, Tryz.ntmps29
  go_wp2_with (first | ((with_reducible refine gate_dst (N := 2) rfl ?_); refine boxE_ (N := 2) #[.int .i64 0, .string (⟨#[]⟩ : ByteArray)] 45 ?_; intro gb101 hg w26 hbox hb; have BK101 := aM_ (hbox); have GW101 := aM_ ((bs_ HB hg)); have GE101 := aM_ ((bs_ HB hg)); replace HB := aM_ (below_step (bB_ HB) hb); clear hb hbox hg) | ((with_reducible refine gate_callee (f := 9) rfl ?_); refine goesM_ (some 9) Tryz.func9 #[.slice A0 l0.length c0] ?_; (with_reducible refine (spec_ArePoints.calls k _ _ l0 false _ ?side1 ?side2 A2.out).mono ?_); (case side1 => repeat (first | exact (Kd.C_below HR0.out HB.out) | (with_reducible refine Kd.C_alloc ?_ _) | (with_reducible refine Kd.C_drewN ?_ _) | (with_reducible refine Kd.C_drew ?_))); (case side2 => exact HC0.out); rintro e w27 ⟨rfl, hb⟩; refine ⟨_, rfl, ?_⟩; replace BK101 := aM_ (bkb_ BK101 hb); replace HB := aM_ (below_step (bB_ HB) hb); (try clear hb); have hcz28_0 := bc_ BK101 0; have hcz28_1 := bc_ BK101 1; have hfz28_0 := blk_frozen BK101.out 0; have hfz28_1 := blk_frozen BK101.out 1))
  refine bodyPost_ret (results_ct rfl _ _ gb101 45 #[.int .i64 0, .string (⟨#[]⟩ : ByteArray)] (0, 0) _ rfl (by (with_reducible repeat (first | refine blk_drewN ?_ _ | refine blk_drew ?_ | refine blk_alloc ?_ _)); refine blk_put (cs := #[.int .i64 0, .string (⟨#[]⟩ : ByteArray)]) ?_ 1 _ rfl; (with_reducible repeat (first | refine blk_drewN ?_ _ | refine blk_drew ?_ | refine blk_alloc ?_ _)); refine blk_put (cs := #[.int .i64 0, .string (⟨#[]⟩ : ByteArray)]) ?_ 0 _ rfl; (with_reducible repeat (first | refine blk_drewN ?_ _ | refine blk_drew ?_ | refine blk_alloc ?_ _)); exact BK101.out) Tryz.underlying45 rfl (by kernel_rfl)) rfl ?_
  exact ⟨verr_, bB_ HB⟩
end Go.Proofs.YteaagaekdkolnaaGreatDoor.P

namespace Go.Proofs.YteaagaekdkolnaaGreatDoor.P
open Go.RowKit Go.Proofs.YteaagaekdkolnaaGreatDoorW.PrintWords Go.Proofs.YteaagaekdkolnaaGreatDoorW.PrintLast Go.Proofs.YteaagaekdkolnaaGreatDoorW.PrintMore
attribute [local go_sem] max2_int min2_int max_two min_two max_three min_three max_four min_four   -- for this text's walks alone
set_option linter.unusedVariables false
set_option linter.unusedSimpArgs false
/-! ### spec_AreSigns: function 85 -/
mutual
def spec_AreSigns.j0 : Nat → Bool → Int → ByteArray → Option (Bool)
 | 0, _, _, _ => none
 | k + 1, x24, x102000, x102001 => if x24 = true then (some false) else (spec_AreSigns.l0 k 0 x102000 x102001)
def spec_AreSigns.l0 : Nat → Int → Int → ByteArray → Option (Bool)
 | 0, _, _, _ => none
 | k + 1, x3, x102000, x102001 => if x3 < (x102001.size : Int) then (if 0 ≤ x3 then (if (bt x102001 x3) = 43 then (spec_AreSigns.l0 k (wrap64 (x3 + 1)) x102000 x102001) else (if (bt x102001 x3) = 45 then (spec_AreSigns.l0 k (wrap64 (x3 + 1)) x102000 x102001) else (some false))) else (none)) else (some true)
end
def spec_AreSigns.f (k : Nat) (a0_0 : Int) (a0_1 : ByteArray) : Option (Bool) := (spec_l1In.f a0_0 3 7).bind fun t102 => (if t102 = true then (spec_AreSigns.j0 k ((a0_1.size : Int) != (wrap64 (Int.tdiv (wrap64 ((wrap64 (a0_0 * (wrap64 (a0_0 - 1)))) * (wrap64 (a0_0 - 2)))) 6))) a0_0 a0_1) else (spec_AreSigns.j0 k true a0_0 a0_1))
set_option maxHeartbeats 8000000 in
set_option maxRecDepth 100000 in
theorem spec_AreSigns.calls (k : Nat) (a0_0 : Int) (a0_1 : ByteArray) (r : Bool) (w : World) (h : spec_AreSigns.f k a0_0 a0_1 = some r) :
  Calls Tryz.prog 85 #[.agg #[.int .i64 a0_0, .string a0_1]] w fun e w' => e = .returned (.bool r) ∧ Below w.heap.size w w' := by
 have hu45 := Tryz.underlying45
 have HB := aM_ (Below.refl w.heap.size w)
 have H : ((spec_l1In.f a0_0 3 7).bind fun t102 => (if t102 = true then (spec_AreSigns.j0 k ((a0_1.size : Int) != (wrap64 (Int.tdiv (wrap64 ((wrap64 (a0_0 * (wrap64 (a0_0 - 1)))) * (wrap64 (a0_0 - 2)))) 6))) a0_0 a0_1) else (spec_AreSigns.j0 k true a0_0 a0_1))) = some r := h
 clear h
 have HC2 := aM_ H
 clear H
 go_enter Tryz.func85, Tryz.ntmps85
 go_upto_region 1 with (first | ((with_reducible refine gate_dst (N := 1) rfl ?_); (try (refine gate_guard (by rfl) ?_; dsimp only)); refine boxE_ (N := 1) #[.int .i64 a0_0, .string a0_1] 45 ?_; intro gb101 hg w3 hbox hb; have BK101 := aM_ (hbox); have GW101 := aM_ ((bs_ HB hg)); have GE101 := aM_ ((bs_ HB hg)); replace HB := aM_ (below_step (bB_ HB) hb); clear hb hbox hg))
 (try simp only [Act.put, List.setIfInBounds_toArray, List.set_cons_zero, List.set_cons_succ])
 go_cut [24] (fun v24 wc => ∃ (kq : Nat) (x24_1 : Bool), v24 = .bool x24_1 ∧ Aside0 (spec_AreSigns.j0 kq x24_1 a0_0 a0_1 = some r) ∧ Aside0 (kq ≤ k) ∧ Aside0 (wc.heap[gb101]? = some (.cells #[.int .i64 a0_0, .string a0_1] 45 (0, 0))) ∧ Aside0 (Below w.heap.size w wc))
 case first =>
  have H := HC2.out
  clear HC2
  replace H := oB_ H
  obtain ⟨t102, A40, H⟩ := H
  have A4 := aM_ A40
  clear A40
  by_cases c5 : t102 = true
  ·subst c5
   rw [if_pos rfl] at H
   have H' := aM_ H
   clear H
   have hcz6_0 := bc_ BK101 0
   have hcz6_1 := bc_ BK101 1
   have hfz6_0 := blk_frozen BK101.out 0
   have hfz6_1 := blk_frozen BK101.out 1
   go_wp2_with (first | ((with_reducible refine gate_callee (f := 26) rfl ?_); refine goesM_ (some 6) Tryz.func26 #[.int .i64 a0_0, .int .i64 3, .int .i64 7] ?_; (with_reducible refine (spec_l1In.calls a0_0 3 7 true _ A4.out).mono ?_); rintro e w' ⟨rfl, ⟨nd, rfl⟩⟩; refine ⟨_, rfl, ?_⟩))
   go_meet
   case rel => exact ⟨_, (((a0_1.size : Int) != (wrap64 (Int.tdiv (wrap64 ((wrap64 (a0_0 * (wrap64 (a0_0 - 1)))) * (wrap64 (a0_0 - 2)))) 6)))), veq_, H', ⟨by first | omega | exact Nat.le_refl _⟩, ⟨bk_ BK101⟩, ⟨bB_ HB⟩⟩
  ·replace c5 := Bool.eq_false_iff.mpr c5
   subst c5
   rw [if_neg (show ¬ (false = true) by decide)] at H
   have H' := aM_ H
   clear H
   have hcz7_0 := bc_ BK101 0
   have hcz7_1 := bc_ BK101 1
   have hfz7_0 := blk_frozen BK101.out 0
   have hfz7_1 := blk_frozen BK101.out 1
   go_wp2_with (first | ((with_reducible refine gate_callee (f := 26) rfl ?_); refine goesM_ (some 6) Tryz.func26 #[.int .i64 a0_0, .int .i64 3, .int .i64 7] ?_; (with_reducible refine (spec_l1In.calls a0_0 3 7 false _ A4.out).mono ?_); rintro e w' ⟨rfl, ⟨nd, rfl⟩⟩; refine ⟨_, rfl, ?_⟩))
   go_meet
   case rel => exact ⟨_, (true), veq_, H', ⟨by first | omega | exact Nat.le_refl _⟩, ⟨bk_ BK101⟩, ⟨bB_ HB⟩⟩
 case rest =>
  clear HC2
  try clear c5
  try clear hcz6_0
  try clear hcz6_1
  try clear hcz7_0
  try clear hcz7_1
  try clear hfz6_0
  try clear hfz6_1
  try clear hfz7_0
  try clear hfz7_1
  obtain ⟨kq, x24_1, rfl, HA, HJ1, BK101, HB⟩ := hcut
  cases kq with
  | zero => exact absurd HA.out (by simp [spec_AreSigns.j0])
  | succ kj1 =>
   have H := HA.out
   clear HA
   simp only [spec_AreSigns.j0] at H
   by_cases c8 : x24_1 = true
   ·subst c8
    rw [if_pos rfl] at H
    obtain rfl := Option.some.inj H
    go_wp2
    go_ret
    exact ⟨verr_, bB_ HB⟩
   ·replace c8 := Bool.eq_false_iff.mpr c8
    subst c8
    rw [if_neg (show ¬ (false = true) by decide)] at H
    have H' := aM_ H
    clear H
    go_wp2
    go_loopg [3] kj1 (fun kq v3 w' => ∃ (x3_2 : Int), v3 = .int .i64 x3_2 ∧ Aside0 (spec_AreSigns.l0 kq x3_2 a0_0 a0_1 = some r) ∧ Aside0 (kq ≤ kj1) ∧ Aside0 (w'.heap[gb101]? = some (.cells #[.int .i64 a0_0, .string a0_1] 45 (0, 0))) ∧ Aside0 (Below w.heap.size w w'))
    case atStart => exact ⟨(0), veq_, H', ⟨Nat.le_refl _⟩, ⟨bk_ BK101⟩, ⟨bB_ HB⟩⟩
    case round =>
     clear H'
     try clear c5
     try clear c8
     try clear hcz6_0
     try clear hcz6_1
     try clear hcz7_0
     try clear hcz7_1
     try clear hfz6_0
     try clear hfz6_1
     try clear hfz7_0
     try clear hfz7_1
     obtain ⟨x3_2, rfl, HA, HK2, BK101, HB⟩ := hrel
     cases gk with
     | zero => exact absurd HA.out (by simp [spec_AreSigns.l0])
     | succ k2 =>
      have H := HA.out
      clear HA
      simp only [spec_AreSigns.l0] at H
      rcases ifd_ H with ⟨c9b0, H⟩ | ⟨c9b0, H⟩
      ·obtain ⟨c10b0, H⟩ := ifn_ H
       rcases ifc_ H with ⟨c12, H⟩ | ⟨c12, H⟩
       ·have c12b0 : ((bt a0_1 x3_2) == 43) = true := beq_iff_eq.mpr c12
        have c12b1 : ((bt a0_1 x3_2) != 43) = false := bne_eq_false_iff_eq.mpr c12
        clear c12
        have H' := aM_ H
        clear H
        have hcz13_0 := bc_ BK101 0
        have hcz13_1 := bc_ BK101 1
        have hfz13_0 := blk_frozen BK101.out 0
        have hfz13_1 := blk_frozen BK101.out 1
        have p11 : 0 ≤ (x3_2 : Int) := ode_
        have q11 : x3_2 < (a0_1.size : Int) := ode_
        have hx11 := bt_at a0_1 x3_2
        replace p11 := eq_true p11
        replace q11 := eq_true q11
        go_wp2
        go_roundg k2
        case measure => have := HJ1.out; have := HK2.out; omega
        case rel => exact ⟨(wrap64 (x3_2 + 1)), veq_, H', ⟨by have := HJ1.out; have := HK2.out; omega⟩, ⟨bk_ BK101⟩, ⟨bB_ HB⟩⟩
       ·have c12b0 : ((bt a0_1 x3_2) == 43) = false := beq_eq_false_iff_ne.mpr c12
        have c12b1 : ((bt a0_1 x3_2) != 43) = true := bne_iff_ne.mpr c12
        rcases ifc_ H with ⟨c15, H⟩ | ⟨c15, H⟩
        ·have c15b0 : ((bt a0_1 x3_2) == 45) = true := beq_iff_eq.mpr c15
         have c15b1 : ((bt a0_1 x3_2) != 45) = false := bne_eq_false_iff_eq.mpr c15
         clear c15
         have H' := aM_ H
         clear H
         have hcz16_0 := bc_ BK101 0
         have hcz16_1 := bc_ BK101 1
         have hfz16_0 := blk_frozen BK101.out 0
         have hfz16_1 := blk_frozen BK101.out 1
         have p11 : 0 ≤ (x3_2 : Int) := ode_
         have q11 : x3_2 < (a0_1.size : Int) := ode_
         have hx11 := bt_at a0_1 x3_2
         replace p11 := eq_true p11
         replace q11 := eq_true q11
         have p14 : 0 ≤ (x3_2 : Int) := ode_
         have q14 : x3_2 < (a0_1.size : Int) := ode_
         have hx14 := bt_at a0_1 x3_2
         replace p14 := eq_true p14
         replace q14 := eq_true q14
         go_wp2
         go_roundg k2
         case measure => have := HJ1.out; have := HK2.out; omega
         case rel => exact ⟨(wrap64 (x3_2 + 1)), veq_, H', ⟨by have := HJ1.out; have := HK2.out; omega⟩, ⟨bk_ BK101⟩, ⟨bB_ HB⟩⟩
        ·have c15b0 : ((bt a0_1 x3_2) == 45) = false := beq_eq_false_iff_ne.mpr c15
         have c15b1 : ((bt a0_1 x3_2) != 45) = true := bne_iff_ne.mpr c15
         obtain rfl := Option.some.inj H
         have hcz17_0 := bc_ BK101 0
         have hcz17_1 := bc_ BK101 1
         have hfz17_0 := blk_frozen BK101.out 0
         have hfz17_1 := blk_frozen BK101.out 1
         have p11 : 0 ≤ (x3_2 : Int) := ode_
         have q11 : x3_2 < (a0_1.size : Int) := ode_
         have hx11 := bt_at a0_1 x3_2
         replace p11 := eq_true p11
         replace q11 := eq_true q11
         have p14 : 0 ≤ (x3_2 : Int) := ode_
         have q14 : x3_2 < (a0_1.size : Int) := ode_
         have hx14 := bt_at a0_1 x3_2
         replace p14 := eq_true p14
         replace q14 := eq_true q14
         go_wp2
         go_ret
         exact ⟨verr_, bB_ HB⟩
      ·obtain rfl := Option.some.inj H
       have hcz18_0 := bc_ BK101 0
       have hcz18_1 := bc_ BK101 1
       have hfz18_0 := blk_frozen BK101.out 0
       have hfz18_1 := blk_frozen BK101.out 1
       go_wp2
       go_ret
       exact ⟨verr_, bB_ HB⟩
end Go.Proofs.YteaagaekdkolnaaGreatDoor.P

namespace Go.Proofs.YteaagaekdkolnaaGreatDoor.P
open Go.RowKit Go.Proofs.YteaagaekdkolnaaGreatDoorW.PrintWords Go.Proofs.YteaagaekdkolnaaGreatDoorW.PrintLast Go.Proofs.YteaagaekdkolnaaGreatDoorW.PrintMore
attribute [local go_sem] max2_int min2_int max_two min_two max_three min_three max_four min_four   -- for this text's walks alone
set_option linter.unusedVariables false
set_option linter.unusedSimpArgs false
/-! ### spec_l3Others: function 98 -/
def spec_l3Others.l0 : Nat → Int → Int → List Int → Int → Option (List Int)
 | 0, _, _, _, _ => none
 | k + 1, x0, x1, x5, x6 => if x6 < x0 then (if x6 = x1 then (spec_l3Others.l0 k x0 x1 x5 (wrap64 (x6 + 1))) else (if x5.length < 17592186044416 then (spec_l3Others.l0 k x0 x1 (x5 ++ [x6]) (wrap64 (x6 + 1))) else (none))) else (some x5)
def spec_l3Others.f (k : Nat) (a0 : Int) (a1 : Int) : Option (List Int) := spec_l3Others.l0 k a0 a1 (([] : List Int)) 0
theorem spec_l3Others.mono_l : ∀ k, (∀ y0 y1 y2 y3, LeO (spec_l3Others.l0 k y0 y1 y2 y3) (spec_l3Others.l0 (k + 1) y0 y1 y2 y3))
 | 0 => fun _ _ _ _ r h => by simp [spec_l3Others.l0] at h
 | k + 1 => by
  have ih0 := spec_l3Others.mono_l k
  (intros; unfold spec_l3Others.l0; repeat' (with_reducible first | exact ih0 _ _ _ _ | exact LeO.refl _ | exact LeO.none _ | refine LeO.ite ?_ ?_ | refine LeO.bind ?_ (fun _ => ?_)))
theorem spec_l3Others.mono : ∀ a0 a1 k, LeO (spec_l3Others.f k a0 a1) (spec_l3Others.f (k + 1) a0 a1) := by
 intro a0 a1 k
 have ih0 := spec_l3Others.mono_l k
 unfold spec_l3Others.f
 repeat' first
   | (with_reducible exact ih0 _ _ _ _)
   | (with_reducible exact LeO.refl _)
   | (with_reducible exact LeO.none _)
   | (with_reducible refine LeO.ite ?_ ?_)
   | (with_reducible refine LeO.bind ?_ (fun _ => ?_))
set_option maxHeartbeats 8000000 in
set_option maxRecDepth 100000 in
theorem spec_l3Others.calls (k : Nat) (a0 : Int) (a1 : Int) (r : List Int) (w : World) (h : spec_l3Others.f k a0 a1 = some r) :
  Calls Tryz.prog 98 #[.int .i64 a0, .int .i64 a1] w fun e w' => ∃ v0_ : Value, e = .returned (v0_) ∧ Kd.R (Kd.int .i64) 3 w' w.heap.size (fun _ => True) v0_ r ∧ Below w.heap.size w w' := by
 have HB := aM_ (Below.refl w.heap.size w)
 have H : (spec_l3Others.l0 k a0 a1 (([] : List Int)) 0) = some r := h
 clear h
 obtain ⟨y101, hy101⟩ : ∃ y_ : List Int, y_ = (([] : List Int)) := ⟨_, rfl⟩
 replace H : (spec_l3Others.l0 k a0 a1 y101 0) = some r := by first | (rw [hy101]; with_reducible exact H) | (have H2_ := (Option.bind_some _ _).symm.trans H; rw [hy101]; with_reducible exact H2_) | (have H2_ := (Option.bind_some _ _).symm.trans H; with_reducible exact H2_) | with_reducible exact H | (rw [hy101]; exact H) | exact H
 have Ny101 := aM_ hy101
 clear hy101
 have H' := aM_ H
 clear H
 go_enter Tryz.func98, Tryz.ntmps98
 go_wp2_with (first | ((with_reducible refine gate_dst (N := 7) rfl ?_); refine Kd.R_lit (Kd.int .i64) _ 3 ?hg (N := 7) ?hd (xs := ([] : List Int)) (inner := []) (ok := fun _ => True) (okp := fun _ => True) ?hr ?hp (fun _ hk => hk) trivial (Below.refl _ _) (Nat.le_refl _) (by simp) ?_; (case hd => rfl); (case hg => rfl); (case hr => first | (go_simp; done) | (go_simp; rfl)); (case hp => exact (Reps.none _ _)); intro v102 w3 ho4 hb hg_ hnew_; clear hg_ hnew_; (first | rw [← Ny101.out] at ho4 | (simp only [Int.reduceToNat] at ho4; rw [← Ny101.out] at ho4)); have HO103 := aM_ (Kd.R_lower ho4 (below_size (bB_ HB))); replace HB := aM_ (below_step (bB_ HB) hb); clear hb ho4))
 go_loopg [5, 6] k (fun kq v5 v6 w' => ∃ (x5_1 : List Int) (x6_1 : Int), v6 = .int .i64 x6_1 ∧ Aside0 (spec_l3Others.l0 kq a0 a1 x5_1 x6_1 = some r) ∧ Aside0 (kq ≤ k) ∧ Aside0 (Kd.R (Kd.int .i64) 3 w' w.heap.size (fun _ => True) v5 x5_1) ∧ Aside0 (Below w.heap.size w w'))
 case atStart => exact ⟨(y101), (0), veq_, H', ⟨Nat.le_refl _⟩, ⟨kr_ HO103⟩, ⟨bB_ HB⟩⟩
 case round =>
  clear H'
  obtain ⟨x5_1, x6_1, rfl, HA, HK1, HO_5, HB⟩ := hrel
  cases gk with
  | zero => exact absurd HA.out (by simp [spec_l3Others.l0])
  | succ k1 =>
   have H := HA.out
   clear HA
   simp only [spec_l3Others.l0] at H
   rcases ifd_ H with ⟨c5b0, H⟩ | ⟨c5b0, H⟩
   ·rcases ifc_ H with ⟨c6, H⟩ | ⟨c6, H⟩
    ·have c6b0 : (x6_1 == a1) = true := beq_iff_eq.mpr c6
     have c6b1 : (x6_1 != a1) = false := bne_eq_false_iff_eq.mpr c6
     clear c6
     have H' := aM_ H
     clear H
     go_wp2
     go_roundg k1
     case measure => have := HK1.out; omega
     case rel => exact ⟨(x5_1), (wrap64 (x6_1 + 1)), veq_, H', ⟨by have := HK1.out; omega⟩, ⟨kr_ HO_5⟩, ⟨bB_ HB⟩⟩
    ·have c6b0 : (x6_1 == a1) = false := beq_eq_false_iff_ne.mpr c6
     have c6b1 : (x6_1 != a1) = true := bne_iff_ne.mpr c6
     obtain ⟨c7, H⟩ := ifp_ H
     have LMc7 := aM_ c7
     clear c7
     obtain ⟨y104, hy104⟩ : ∃ y_ : List Int, y_ = (x5_1 ++ [x6_1]) := ⟨_, rfl⟩
     replace H : (spec_l3Others.l0 k1 a0 a1 y104 (wrap64 (x6_1 + 1))) = some r := by first | (rw [hy104]; with_reducible exact H) | (have H2_ := (Option.bind_some _ _).symm.trans H; rw [hy104]; with_reducible exact H2_) | (have H2_ := (Option.bind_some _ _).symm.trans H; with_reducible exact H2_) | with_reducible exact H | (rw [hy104]; exact H) | exact H
     have Ny104 := aM_ hy104
     clear hy104
     have H' := aM_ H
     clear H
     go_wp2_with (first | ((with_reducible refine gate_builtin (b := .append) (xs := #[.tmp 16, .tmp 18]) rfl ?_); at_builtin; refine Kd.R_append (Kd.int .i64) (w0 := w) w.heap.size rfl (.tmp 16) (.tmp 18) 48 3 (.int .i64 0) 8 rfl Tryz.underlying48 info3 rfl (by decide) (by omega) u5 x5_1 x6_1 [.int .i64 x6_1] (fun _ => True) (fun _ => False) rfl rfl ?aP (fun _ hk => hk.elim) ?aF ?aO ?aB ?aS ?aL ?_; (case aP => exact rfl); (case aB => exact (bB_ HB)); (case aF => exact (fun _ _ => trivial)); (case aO => exact (kr_ HO_5)); (case aS => exact (below_size (bB_ HB))); (case aL => have := LMc7.out; omega); intro v105 w8 ho hb hg hat; rw [← Ny104.out] at ho; replace HB := aM_ (hb); have HO106 := aM_ (ho); clear HO_5; clear ho hb hg hat))
     go_roundg k1
     case measure => have := HK1.out; omega
     case rel => exact ⟨(y104), (wrap64 (x6_1 + 1)), veq_, H', ⟨by have := HK1.out; omega⟩, ⟨kr_ HO106⟩, ⟨bB_ HB⟩⟩
   ·obtain rfl := Option.some.inj H
    go_wp2
    go_ret
    exact ⟨_, verr_, kr_ HO_5, bB_ HB⟩
end Go.Proofs.YteaagaekdkolnaaGreatDoor.P

namespace Go.Proofs.YteaagaekdkolnaaGreatDoor.P
open Go.RowKit Go.Proofs.YteaagaekdkolnaaGreatDoorW.PrintWords Go.Proofs.YteaagaekdkolnaaGreatDoorW.PrintLast Go.Proofs.YteaagaekdkolnaaGreatDoorW.PrintMore
attribute [local go_sem] max2_int min2_int max_two min_two max_three min_three max_four min_four   -- for this text's walks alone
set_option linter.unusedVariables false
set_option linter.unusedSimpArgs false
/-! ### spec_l3Index: function 89 -/
mutual
def spec_l3Index.l0 : Nat → Int → Int → Int → Int → Int → Int → Option (Int)
 | 0, _, _, _, _, _, _ => none
 | k + 1, x0, x1, x2, x3, x9, x10 => if x10 < x1 then (spec_l3Index.l0 k x0 x1 x2 x3 (wrap64 (x9 + (wrap64 (Int.tdiv (wrap64 ((wrap64 ((wrap64 (x0 - 1)) - x10)) * (wrap64 ((wrap64 (x0 - 2)) - x10)))) 2)))) (wrap64 (x10 + 1))) else (spec_l3Index.l1 k x0 x2 x3 x9 (wrap64 (x1 + 1)))
def spec_l3Index.l1 : Nat → Int → Int → Int → Int → Int → Option (Int)
 | 0, _, _, _, _, _ => none
 | k + 1, x0, x2, x3, x9, x11 => if x11 < x2 then (spec_l3Index.l1 k x0 x2 x3 (wrap64 ((wrap64 ((wrap64 (x9 + x0)) - 1)) - x11)) (wrap64 (x11 + 1))) else (some (wrap64 ((wrap64 ((wrap64 (x9 + x3)) - x2)) - 1)))
end
def spec_l3Index.f (k : Nat) (a0 : Int) (a1 : Int) (a2 : Int) (a3 : Int) : Option (Int) := spec_l3Index.l0 k a0 a1 a2 a3 0 0
theorem spec_l3Index.mono_l : ∀ k, (∀ y0 y1 y2 y3 y4 y5, LeO (spec_l3Index.l0 k y0 y1 y2 y3 y4 y5) (spec_l3Index.l0 (k + 1) y0 y1 y2 y3 y4 y5)) ∧ (∀ y0 y1 y2 y3 y4, LeO (spec_l3Index.l1 k y0 y1 y2 y3 y4) (spec_l3Index.l1 (k + 1) y0 y1 y2 y3 y4))
 | 0 => ⟨fun _ _ _ _ _ _ r h => by simp [spec_l3Index.l0] at h, fun _ _ _ _ _ r h => by simp [spec_l3Index.l1] at h⟩
 | k + 1 => by
  obtain ⟨ih0, ih1⟩ := spec_l3Index.mono_l k
  refine ⟨?_, ?_⟩ <;> (intros; (first | unfold spec_l3Index.l0 | unfold spec_l3Index.l1); repeat' (with_reducible first | exact ih0 _ _ _ _ _ _ | exact ih1 _ _ _ _ _ | exact LeO.refl _ | exact LeO.none _ | refine LeO.ite ?_ ?_ | refine LeO.bind ?_ (fun _ => ?_)))
theorem spec_l3Index.mono : ∀ a0 a1 a2 a3 k, LeO (spec_l3Index.f k a0 a1 a2 a3) (spec_l3Index.f (k + 1) a0 a1 a2 a3) := by
 intro a0 a1 a2 a3 k
 obtain ⟨ih0, ih1⟩ := spec_l3Index.mono_l k
 unfold spec_l3Index.f
 repeat' first
   | (with_reducible exact ih0 _ _ _ _ _ _)
   | (with_reducible exact ih1 _ _ _ _ _)
   | (with_reducible exact LeO.refl _)
   | (with_reducible exact LeO.none _)
   | (with_reducible refine LeO.ite ?_ ?_)
   | (with_reducible refine LeO.bind ?_ (fun _ => ?_))
set_option maxHeartbeats 8000000 in
set_option maxRecDepth 100000 in
theorem spec_l3Index.calls (k : Nat) (a0 : Int) (a1 : Int) (a2 : Int) (a3 : Int) (r : Int) (w : World) (h : spec_l3Index.f k a0 a1 a2 a3 = some r) :
  Calls Tryz.prog 89 #[.int .i64 a0, .int .i64 a1, .int .i64 a2, .int .i64 a3] w fun e w' => e = .returned (.int .i64 r) ∧ Drawn0 w w' := by
 have H : (spec_l3Index.l0 k a0 a1 a2 a3 0 0) = some r := h
 clear h
 have H' := aM_ H
 clear H
 go_enter Tryz.func89, Tryz.ntmps89
 go_wp2
 go_loopg [9, 10] k (fun kq v9 v10 w' => ∃ (x9_1 : Int) (x10_1 : Int), v9 = .int .i64 x9_1 ∧ v10 = .int .i64 x10_1 ∧ Aside0 (spec_l3Index.l0 kq a0 a1 a2 a3 x9_1 x10_1 = some r) ∧ Aside0 (kq ≤ k) ∧ Drawn0 w w')
 case atStart => exact ⟨(0), (0), veq_, veq_, H', ⟨Nat.le_refl _⟩, by repeat (first | exact Drawn0.refl _ | apply Drawn0.step)⟩
 case round =>
  clear H'
  obtain ⟨x9_1, x10_1, rfl, rfl, HA, HK1, ⟨m1, rfl⟩⟩ := hrel
  cases gk with
  | zero => exact absurd HA.out (by simp [spec_l3Index.l0])
  | succ k1 =>
   have H := HA.out
   clear HA
   simp only [spec_l3Index.l0] at H
   rcases ifd_ H with ⟨c5b0, H⟩ | ⟨c5b0, H⟩
   ·have H' := aM_ H
    clear H
    go_wp2
    go_roundg k1
    case measure => have := HK1.out; omega
    case rel => exact ⟨(wrap64 (x9_1 + (wrap64 (Int.tdiv (wrap64 ((wrap64 ((wrap64 (a0 - 1)) - x10_1)) * (wrap64 ((wrap64 (a0 - 2)) - x10_1)))) 2)))), (wrap64 (x10_1 + 1)), veq_, veq_, H', ⟨by have := HK1.out; omega⟩, by repeat (first | exact Drawn0.refl _ | apply Drawn0.step)⟩
   ·have H' := aM_ H
    clear H
    go_wp2
    go_loopg [9, 11] k1 (fun kq v9 v11 w' => ∃ (x9_2 : Int) (x11_2 : Int), v9 = .int .i64 x9_2 ∧ v11 = .int .i64 x11_2 ∧ Aside0 (spec_l3Index.l1 kq a0 a2 a3 x9_2 x11_2 = some r) ∧ Aside0 (kq ≤ k1) ∧ Drawn0 w w')
    case atStart => exact ⟨(x9_1), (wrap64 (a1 + 1)), veq_, veq_, H', ⟨Nat.le_refl _⟩, by repeat (first | exact Drawn0.refl _ | apply Drawn0.step)⟩
    case round =>
     clear H'
     try clear c5b0
     obtain ⟨x9_2, x11_2, rfl, rfl, HA, HK2, ⟨m2, rfl⟩⟩ := hrel
     cases gk with
     | zero => exact absurd HA.out (by simp [spec_l3Index.l1])
     | succ k2 =>
      have H := HA.out
      clear HA
      simp only [spec_l3Index.l1] at H
      rcases ifd_ H with ⟨c6b0, H⟩ | ⟨c6b0, H⟩
      ·have H' := aM_ H
       clear H
       go_wp2
       go_roundg k2
       case measure => have := HK1.out; have := HK2.out; omega
       case rel => exact ⟨(wrap64 ((wrap64 ((wrap64 (x9_2 + a0)) - 1)) - x11_2)), (wrap64 (x11_2 + 1)), veq_, veq_, H', ⟨by have := HK1.out; have := HK2.out; omega⟩, by repeat (first | exact Drawn0.refl _ | apply Drawn0.step)⟩
      ·obtain rfl := Option.some.inj H
       go_wp2
       go_ret
       exact ⟨veq_, by repeat (first | exact Drawn0.refl _ | apply Drawn0.step)⟩
end Go.Proofs.YteaagaekdkolnaaGreatDoor.P

namespace Go.Proofs.YteaagaekdkolnaaGreatDoor.P
open Go.RowKit Go.Proofs.YteaagaekdkolnaaGreatDoorW.PrintWords Go.Proofs.YteaagaekdkolnaaGreatDoorW.PrintLast Go.Proofs.YteaagaekdkolnaaGreatDoorW.PrintMore
attribute [local go_sem] max2_int min2_int max_two min_two max_three min_three max_four min_four   -- for this text's walks alone
set_option linter.unusedVariables false
set_option linter.unusedSimpArgs false
/-! ### spec_l3At: function 73 -/
mutual
def spec_l3At.j0 : Nat → Int → Int → Int → Int → Int → ByteArray → Option (Int)
 | 0, _, _, _, _, _, _ => none
 | k + 1, x1, x2, x3, x9, x102000, x102001 => if x2 > x3 then (spec_l3At.j1 k x1 x3 x2 (wrap64 (-x9)) x102000 x102001) else (spec_l3At.j1 k x1 x2 x3 x9 x102000 x102001)
def spec_l3At.j1 : Nat → Int → Int → Int → Int → Int → ByteArray → Option (Int)
 | 0, _, _, _, _, _, _ => none
 | k + 1, x1, x2, x3, x9, x102000, x102001 => if x1 > x2 then ((spec_l3Index.f k x102000 x2 x1 x3).bind fun t102 => (if 0 ≤ t102 then (if t102 < (x102001.size : Int) then (if (bt x102001 t102) = 45 then (some (wrap64 (-(wrap64 (-x9))))) else (some (wrap64 (-x9)))) else (none)) else (none))) else ((spec_l3Index.f k x102000 x1 x2 x3).bind fun t103 => (if 0 ≤ t103 then (if t103 < (x102001.size : Int) then (if (bt x102001 t103) = 45 then (some (wrap64 (-x9))) else (some x9)) else (none)) else (none)))
end
def spec_l3At.f (k : Nat) (a0_0 : Int) (a0_1 : ByteArray) (a1 : Int) (a2 : Int) (a3 : Int) : Option (Int) := if a1 > a2 then (spec_l3At.j0 k a2 a1 a3 (-1) a0_0 a0_1) else (spec_l3At.j0 k a1 a2 a3 1 a0_0 a0_1)
theorem spec_l3At.mono_l : ∀ k, (∀ y0 y1 y2 y3 y4 y5, LeO (spec_l3At.j0 k y0 y1 y2 y3 y4 y5) (spec_l3At.j0 (k + 1) y0 y1 y2 y3 y4 y5)) ∧ (∀ y0 y1 y2 y3 y4 y5, LeO (spec_l3At.j1 k y0 y1 y2 y3 y4 y5) (spec_l3At.j1 (k + 1) y0 y1 y2 y3 y4 y5))
 | 0 => ⟨fun _ _ _ _ _ _ r h => by simp [spec_l3At.j0] at h, fun _ _ _ _ _ _ r h => by simp [spec_l3At.j1] at h⟩
 | k + 1 => by
  obtain ⟨ih0, ih1⟩ := spec_l3At.mono_l k
  refine ⟨?_, ?_⟩ <;> (intros; (first | unfold spec_l3At.j0 | unfold spec_l3At.j1); repeat' (with_reducible first | exact ih0 _ _ _ _ _ _ | exact ih1 _ _ _ _ _ _ | exact spec_l3Index.mono _ _ _ _ _ | exact LeO.refl _ | exact LeO.none _ | refine LeO.ite ?_ ?_ | refine LeO.bind ?_ (fun _ => ?_)))
theorem spec_l3At.mono : ∀ a0 a1 a2 a3 a4 k, LeO (spec_l3At.f k a0 a1 a2 a3 a4) (spec_l3At.f (k + 1) a0 a1 a2 a3 a4) := by
 intro a0 a1 a2 a3 a4 k
 obtain ⟨ih0, ih1⟩ := spec_l3At.mono_l k
 unfold spec_l3At.f
 repeat' first
   | (with_reducible exact ih0 _ _ _ _ _ _)
   | (with_reducible exact ih1 _ _ _ _ _ _)
   | (with_reducible exact spec_l3Index.mono _ _ _ _ _)
   | (with_reducible exact LeO.refl _)
   | (with_reducible exact LeO.none _)
   | (with_reducible refine LeO.ite ?_ ?_)
   | (with_reducible refine LeO.bind ?_ (fun _ => ?_))
set_option maxHeartbeats 8000000 in
set_option maxRecDepth 100000 in
theorem spec_l3At.calls (k : Nat) (a0_0 : Int) (a0_1 : ByteArray) (a1 : Int) (a2 : Int) (a3 : Int) (r : Int) (w : World) (h : spec_l3At.f k a0_0 a0_1 a1 a2 a3 = some r) :
  Calls Tryz.prog 73 #[.agg #[.int .i64 a0_0, .string a0_1], .int .i64 a1, .int .i64 a2, .int .i64 a3] w fun e w' => e = .returned (.int .i64 r) ∧ Below w.heap.size w w' := by
 have hu45 := Tryz.underlying45
 have HB := aM_ (Below.refl w.heap.size w)
 have H : (if a1 > a2 then (spec_l3At.j0 k a2 a1 a3 (-1) a0_0 a0_1) else (spec_l3At.j0 k a1 a2 a3 1 a0_0 a0_1)) = some r := h
 clear h
 have HC5 := aM_ H
 clear H
 go_enter Tryz.func73, Tryz.ntmps73
 go_upto_if 15 with (first | ((with_reducible refine gate_dst (N := 4) rfl ?_); refine boxE_ (N := 4) #[.int .i64 a0_0, .string a0_1] 45 ?_; intro gb101 hg w6 hbox hb; have BK101 := aM_ (hbox); have GW101 := aM_ ((bs_ HB hg)); have GE101 := aM_ ((bs_ HB hg)); replace HB := aM_ (below_step (bB_ HB) hb); clear hb hbox hg))
 repeat (go_quiet (first | ((with_reducible refine gate_dst (N := 4) rfl ?_); refine boxE_ (N := 4) #[.int .i64 a0_0, .string a0_1] 45 ?_; intro gb101 hg w6 hbox hb; have BK101 := aM_ (hbox); have GW101 := aM_ ((bs_ HB hg)); have GE101 := aM_ ((bs_ HB hg)); replace HB := aM_ (below_step (bB_ HB) hb); clear hb hbox hg)); go_upto_if 15 with (first | ((with_reducible refine gate_dst (N := 4) rfl ?_); refine boxE_ (N := 4) #[.int .i64 a0_0, .string a0_1] 45 ?_; intro gb101 hg w6 hbox hb; have BK101 := aM_ (hbox); have GW101 := aM_ ((bs_ HB hg)); have GE101 := aM_ ((bs_ HB hg)); replace HB := aM_ (below_step (bB_ HB) hb); clear hb hbox hg)))
 (try simp only [Act.put, List.setIfInBounds_toArray, List.set_cons_zero, List.set_cons_succ])
 go_cut [1, 2, 9] (fun v1 v2 v9 wc => ∃ (kq : Nat) (x1_4 : Int) (x2_4 : Int) (x9_4 : Int), v1 = .int .i64 x1_4 ∧ v2 = .int .i64 x2_4 ∧ v9 = .int .i64 x9_4 ∧ Aside0 (spec_l3At.j0 kq x1_4 x2_4 a3 x9_4 a0_0 a0_1 = some r) ∧ Aside0 (kq ≤ k) ∧ Aside0 (wc.heap[gb101]? = some (.cells #[.int .i64 a0_0, .string a0_1] 45 (0, 0))) ∧ Aside0 (Below w.heap.size w wc))
 case first =>
  have H := HC5.out
  clear HC5
  rcases ifd_ H with ⟨c7b0, H⟩ | ⟨c7b0, H⟩
  ·(first | rw [c7b0] | (simp only [i64_w, i32_w]; rw [c7b0]) | skip)
   have H' := aM_ H
   clear H
   go_wp2
   repeat (go_quiet (fail); try go_wp2)
   go_meet
   case rel => exact ⟨_, (a2), (a1), (-1), veq_, veq_, veq_, H', ⟨by first | omega | exact Nat.le_refl _⟩, ⟨bk_ BK101⟩, ⟨bB_ HB⟩⟩
  ·(first | rw [c7b0] | (simp only [i64_w, i32_w]; rw [c7b0]) | skip)
   have H' := aM_ H
   clear H
   go_wp2
   repeat (go_quiet (fail); try go_wp2)
   go_meet
   case rel => exact ⟨_, (a1), (a2), (1), veq_, veq_, veq_, H', ⟨by first | omega | exact Nat.le_refl _⟩, ⟨bk_ BK101⟩, ⟨bB_ HB⟩⟩
 case rest =>
  clear HC5
  try clear c7b0
  obtain ⟨kq, x1_4, x2_4, x9_4, rfl, rfl, rfl, HA, HJ4, BK101, HB⟩ := hcut
  cases kq with
  | zero => exact absurd HA.out (by simp [spec_l3At.j0])
  | succ kj4 =>
   have H := HA.out
   clear HA
   simp only [spec_l3At.j0] at H
   have HC8 := aM_ H
   clear H
   go_upto_if 23 with (fail)
   repeat (go_quiet (fail); go_upto_if 23 with (fail))
   go_cut [2, 3, 9] (fun v2 v3 v9 wc => ∃ (kq : Nat) (x2_7 : Int) (x3_7 : Int) (x9_7 : Int), v2 = .int .i64 x2_7 ∧ v3 = .int .i64 x3_7 ∧ v9 = .int .i64 x9_7 ∧ Aside0 (spec_l3At.j1 kq x1_4 x2_7 x3_7 x9_7 a0_0 a0_1 = some r) ∧ Aside0 (kq ≤ kj4) ∧ Aside0 (wc.heap[gb101]? = some (.cells #[.int .i64 a0_0, .string a0_1] 45 (0, 0))) ∧ Aside0 (Below w.heap.size w wc))
   case first =>
    have H := HC8.out
    clear HC8
    rcases ifd_ H with ⟨c9b0, H⟩ | ⟨c9b0, H⟩
    ·(first | rw [c9b0] | (simp only [i64_w, i32_w]; rw [c9b0]) | skip)
     have H' := aM_ H
     clear H
     go_wp2
     repeat (go_quiet (fail); try go_wp2)
     go_meet
     case rel => exact ⟨_, (a3), (x2_4), (wrap64 (-x9_4)), veq_, veq_, veq_, H', ⟨le_ HJ4⟩, ⟨bk_ BK101⟩, ⟨bB_ HB⟩⟩
    ·(first | rw [c9b0] | (simp only [i64_w, i32_w]; rw [c9b0]) | skip)
     have H' := aM_ H
     clear H
     go_wp2
     repeat (go_quiet (fail); try go_wp2)
     go_meet
     case rel => exact ⟨_, (x2_4), (a3), (x9_4), veq_, veq_, veq_, H', ⟨le_ HJ4⟩, ⟨bk_ BK101⟩, ⟨bB_ HB⟩⟩
   case rest =>
    clear HC8
    try clear c7b0
    try clear c9b0
    obtain ⟨kq, x2_7, x3_7, x9_7, rfl, rfl, rfl, HA, HJ7, BK101, HB⟩ := hcut
    cases kq with
    | zero => exact absurd HA.out (by simp [spec_l3At.j1])
    | succ kj7 =>
     have H := HA.out
     clear HA
     simp only [spec_l3At.j1] at H
     rcases ifd_ H with ⟨c10b0, H⟩ | ⟨c10b0, H⟩
     ·replace H := oB_ H
      obtain ⟨t102, A110, H⟩ := H
      have A11 := aM_ A110
      clear A110
      obtain ⟨c12b0, H⟩ := ifn_ H
      obtain ⟨c13b0, H⟩ := ifn_ H
      rcases ifc_ H with ⟨c15, H⟩ | ⟨c15, H⟩
      ·have c15b0 : ((bt a0_1 t102) == 45) = true := beq_iff_eq.mpr c15
       have c15b1 : ((bt a0_1 t102) != 45) = false := bne_eq_false_iff_eq.mpr c15
       clear c15
       obtain rfl := Option.some.inj H
       have hcz16_0 := bc_ BK101 0
       have hcz16_1 := bc_ BK101 1
       have hfz16_0 := blk_frozen BK101.out 0
       have hfz16_1 := blk_frozen BK101.out 1
       go_wp2_with (first | (go_at_call 89; (with_reducible refine (spec_l3Index.calls kj7 a0_0 x2_7 x1_4 x3_7 t102 _ A11.out).mono ?_); rintro e w' ⟨rfl, ⟨nd, rfl⟩⟩; (try first | exact ⟨rfl, _, World.drewN_drewN _ _ _⟩ | exact ⟨rfl, _, Eq.trans (World.drewN_drewN _ _ _) (congrArg (World.drewN _) (Nat.add_assoc _ _ _))⟩); have p14 : 0 ≤ (t102 : Int) := ode_; have q14 : t102 < (a0_1.size : Int) := ode_; have hx14 := bt_at a0_1 t102; replace p14 := eq_true p14; replace q14 := eq_true q14))
       repeat (go_quiet (first | (go_at_call 89; (with_reducible refine (spec_l3Index.calls kj7 a0_0 x2_7 x1_4 x3_7 t102 _ A11.out).mono ?_); rintro e w' ⟨rfl, ⟨nd, rfl⟩⟩; (try first | exact ⟨rfl, _, World.drewN_drewN _ _ _⟩ | exact ⟨rfl, _, Eq.trans (World.drewN_drewN _ _ _) (congrArg (World.drewN _) (Nat.add_assoc _ _ _))⟩); have p14 : 0 ≤ (t102 : Int) := ode_; have q14 : t102 < (a0_1.size : Int) := ode_; have hx14 := bt_at a0_1 t102; replace p14 := eq_true p14; replace q14 := eq_true q14)); try go_wp2_with (first | (go_at_call 89; (with_reducible refine (spec_l3Index.calls kj7 a0_0 x2_7 x1_4 x3_7 t102 _ A11.out).mono ?_); rintro e w' ⟨rfl, ⟨nd, rfl⟩⟩; (try first | exact ⟨rfl, _, World.drewN_drewN _ _ _⟩ | exact ⟨rfl, _, Eq.trans (World.drewN_drewN _ _ _) (congrArg (World.drewN _) (Nat.add_assoc _ _ _))⟩); have p14 : 0 ≤ (t102 : Int) := ode_; have q14 : t102 < (a0_1.size : Int) := ode_; have hx14 := bt_at a0_1 t102; replace p14 := eq_true p14; replace q14 := eq_true q14)))
       go_ret
       exact ⟨verr_, bB_ HB⟩
      ·have c15b0 : ((bt a0_1 t102) == 45) = false := beq_eq_false_iff_ne.mpr c15
       have c15b1 : ((bt a0_1 t102) != 45) = true := bne_iff_ne.mpr c15
       obtain rfl := Option.some.inj H
       have hcz17_0 := bc_ BK101 0
       have hcz17_1 := bc_ BK101 1
       have hfz17_0 := blk_frozen BK101.out 0
       have hfz17_1 := blk_frozen BK101.out 1
       go_wp2_with (first | (go_at_call 89; (with_reducible refine (spec_l3Index.calls kj7 a0_0 x2_7 x1_4 x3_7 t102 _ A11.out).mono ?_); rintro e w' ⟨rfl, ⟨nd, rfl⟩⟩; (try first | exact ⟨rfl, _, World.drewN_drewN _ _ _⟩ | exact ⟨rfl, _, Eq.trans (World.drewN_drewN _ _ _) (congrArg (World.drewN _) (Nat.add_assoc _ _ _))⟩); have p14 : 0 ≤ (t102 : Int) := ode_; have q14 : t102 < (a0_1.size : Int) := ode_; have hx14 := bt_at a0_1 t102; replace p14 := eq_true p14; replace q14 := eq_true q14))
       repeat (go_quiet (first | (go_at_call 89; (with_reducible refine (spec_l3Index.calls kj7 a0_0 x2_7 x1_4 x3_7 t102 _ A11.out).mono ?_); rintro e w' ⟨rfl, ⟨nd, rfl⟩⟩; (try first | exact ⟨rfl, _, World.drewN_drewN _ _ _⟩ | exact ⟨rfl, _, Eq.trans (World.drewN_drewN _ _ _) (congrArg (World.drewN _) (Nat.add_assoc _ _ _))⟩); have p14 : 0 ≤ (t102 : Int) := ode_; have q14 : t102 < (a0_1.size : Int) := ode_; have hx14 := bt_at a0_1 t102; replace p14 := eq_true p14; replace q14 := eq_true q14)); try go_wp2_with (first | (go_at_call 89; (with_reducible refine (spec_l3Index.calls kj7 a0_0 x2_7 x1_4 x3_7 t102 _ A11.out).mono ?_); rintro e w' ⟨rfl, ⟨nd, rfl⟩⟩; (try first | exact ⟨rfl, _, World.drewN_drewN _ _ _⟩ | exact ⟨rfl, _, Eq.trans (World.drewN_drewN _ _ _) (congrArg (World.drewN _) (Nat.add_assoc _ _ _))⟩); have p14 : 0 ≤ (t102 : Int) := ode_; have q14 : t102 < (a0_1.size : Int) := ode_; have hx14 := bt_at a0_1 t102; replace p14 := eq_true p14; replace q14 := eq_true q14)))
       go_ret
       exact ⟨verr_, bB_ HB⟩
     ·replace H := oB_ H
      obtain ⟨t103, A180, H⟩ := H
      have A18 := aM_ A180
      clear A180
      obtain ⟨c19b0, H⟩ := ifn_ H
      obtain ⟨c20b0, H⟩ := ifn_ H
      rcases ifc_ H with ⟨c22, H⟩ | ⟨c22, H⟩
      ·have c22b0 : ((bt a0_1 t103) == 45) = true := beq_iff_eq.mpr c22
       have c22b1 : ((bt a0_1 t103) != 45) = false := bne_eq_false_iff_eq.mpr c22
       clear c22
       obtain rfl := Option.some.inj H
       have hcz23_0 := bc_ BK101 0
       have hcz23_1 := bc_ BK101 1
       have hfz23_0 := blk_frozen BK101.out 0
       have hfz23_1 := blk_frozen BK101.out 1
       go_wp2_with (first | (go_at_call 89; (with_reducible refine (spec_l3Index.calls kj7 a0_0 x1_4 x2_7 x3_7 t103 _ A18.out).mono ?_); rintro e w' ⟨rfl, ⟨nd, rfl⟩⟩; (try first | exact ⟨rfl, _, World.drewN_drewN _ _ _⟩ | exact ⟨rfl, _, Eq.trans (World.drewN_drewN _ _ _) (congrArg (World.drewN _) (Nat.add_assoc _ _ _))⟩); have p21 : 0 ≤ (t103 : Int) := ode_; have q21 : t103 < (a0_1.size : Int) := ode_; have hx21 := bt_at a0_1 t103; replace p21 := eq_true p21; replace q21 := eq_true q21))
       repeat (go_quiet (first | (go_at_call 89; (with_reducible refine (spec_l3Index.calls kj7 a0_0 x1_4 x2_7 x3_7 t103 _ A18.out).mono ?_); rintro e w' ⟨rfl, ⟨nd, rfl⟩⟩; (try first | exact ⟨rfl, _, World.drewN_drewN _ _ _⟩ | exact ⟨rfl, _, Eq.trans (World.drewN_drewN _ _ _) (congrArg (World.drewN _) (Nat.add_assoc _ _ _))⟩); have p21 : 0 ≤ (t103 : Int) := ode_; have q21 : t103 < (a0_1.size : Int) := ode_; have hx21 := bt_at a0_1 t103; replace p21 := eq_true p21; replace q21 := eq_true q21)); try go_wp2_with (first | (go_at_call 89; (with_reducible refine (spec_l3Index.calls kj7 a0_0 x1_4 x2_7 x3_7 t103 _ A18.out).mono ?_); rintro e w' ⟨rfl, ⟨nd, rfl⟩⟩; (try first | exact ⟨rfl, _, World.drewN_drewN _ _ _⟩ | exact ⟨rfl, _, Eq.trans (World.drewN_drewN _ _ _) (congrArg (World.drewN _) (Nat.add_assoc _ _ _))⟩); have p21 : 0 ≤ (t103 : Int) := ode_; have q21 : t103 < (a0_1.size : Int) := ode_; have hx21 := bt_at a0_1 t103; replace p21 := eq_true p21; replace q21 := eq_true q21)))
       go_ret
       exact ⟨verr_, bB_ HB⟩
      ·have c22b0 : ((bt a0_1 t103) == 45) = false := beq_eq_false_iff_ne.mpr c22
       have c22b1 : ((bt a0_1 t103) != 45) = true := bne_iff_ne.mpr c22
       obtain rfl := Option.some.inj H
       have hcz24_0 := bc_ BK101 0
       have hcz24_1 := bc_ BK101 1
       have hfz24_0 := blk_frozen BK101.out 0
       have hfz24_1 := blk_frozen BK101.out 1
       go_wp2_with (first | (go_at_call 89; (with_reducible refine (spec_l3Index.calls kj7 a0_0 x1_4 x2_7 x3_7 t103 _ A18.out).mono ?_); rintro e w' ⟨rfl, ⟨nd, rfl⟩⟩; (try first | exact ⟨rfl, _, World.drewN_drewN _ _ _⟩ | exact ⟨rfl, _, Eq.trans (World.drewN_drewN _ _ _) (congrArg (World.drewN _) (Nat.add_assoc _ _ _))⟩); have p21 : 0 ≤ (t103 : Int) := ode_; have q21 : t103 < (a0_1.size : Int) := ode_; have hx21 := bt_at a0_1 t103; replace p21 := eq_true p21; replace q21 := eq_true q21))
       repeat (go_quiet (first | (go_at_call 89; (with_reducible refine (spec_l3Index.calls kj7 a0_0 x1_4 x2_7 x3_7 t103 _ A18.out).mono ?_); rintro e w' ⟨rfl, ⟨nd, rfl⟩⟩; (try first | exact ⟨rfl, _, World.drewN_drewN _ _ _⟩ | exact ⟨rfl, _, Eq.trans (World.drewN_drewN _ _ _) (congrArg (World.drewN _) (Nat.add_assoc _ _ _))⟩); have p21 : 0 ≤ (t103 : Int) := ode_; have q21 : t103 < (a0_1.size : Int) := ode_; have hx21 := bt_at a0_1 t103; replace p21 := eq_true p21; replace q21 := eq_true q21)); try go_wp2_with (first | (go_at_call 89; (with_reducible refine (spec_l3Index.calls kj7 a0_0 x1_4 x2_7 x3_7 t103 _ A18.out).mono ?_); rintro e w' ⟨rfl, ⟨nd, rfl⟩⟩; (try first | exact ⟨rfl, _, World.drewN_drewN _ _ _⟩ | exact ⟨rfl, _, Eq.trans (World.drewN_drewN _ _ _) (congrArg (World.drewN _) (Nat.add_assoc _ _ _))⟩); have p21 : 0 ≤ (t103 : Int) := ode_; have q21 : t103 < (a0_1.size : Int) := ode_; have hx21 := bt_at a0_1 t103; replace p21 := eq_true p21; replace q21 := eq_true q21)))
       go_ret
       exact ⟨verr_, bB_ HB⟩
end Go.Proofs.YteaagaekdkolnaaGreatDoor.P

namespace Go.Proofs.YteaagaekdkolnaaGreatDoor.P
open Go.RowKit Go.Proofs.YteaagaekdkolnaaGreatDoorW.PrintWords Go.Proofs.YteaagaekdkolnaaGreatDoorW.PrintLast Go.Proofs.YteaagaekdkolnaaGreatDoorW.PrintMore
attribute [local go_sem] max2_int min2_int max_two min_two max_three min_three max_four min_four   -- for this text's walks alone
set_option linter.unusedVariables false
set_option linter.unusedSimpArgs false
/-! ### spec_l4Breaks: function 99 -/
def spec_l4Breaks.f (k : Nat) (a0_0 : Int) (a0_1 : ByteArray) (a1 : Int) (a2 : Int) (a3 : Int) (a4 : Int) (a5 : Int) : Option (Bool) := (spec_l3At.f k a0_0 a0_1 a1 a2 a3).bind fun t102 => ((spec_l3At.f k a0_0 a0_1 a1 a4 a5).bind fun t103 => ((spec_l3At.f k a0_0 a0_1 a1 a2 a5).bind fun t104 => ((spec_l3At.f k a0_0 a0_1 a1 a3 a4).bind fun t105 => ((spec_l3At.f k a0_0 a0_1 a1 a2 a4).bind fun t106 => ((spec_l3At.f k a0_0 a0_1 a1 a3 a5).bind fun t107 => (if (wrap64 (t102 * t103)) = (wrap64 (t104 * t105)) then (some ((wrap64 (t104 * t105)) == (wrap64 ((wrap64 (-t106)) * t107)))) else (some false)))))))
def spec_l4Breaks.T1 : Bool × List (List Nat × List Nat) := (true, [([], []), ([], []), ([], []), ([], []), ([0, 1, 2, 3], [0, 1, 2, 3]), ([], []), ([], []), ([], []), ([], []), ([5, 6, 7, 8, 4], [5, 6, 7, 8]), ([4, 9], [4, 9]), ([10, 9, 0, 1, 2, 3, 4, 5, 6, 7, 8, 9, 10], [10])])
def spec_l4Breaks.B1 : List Nat := [0, 0, 0, 0, 15, 0, 0, 0, 0, 511, 1023, 2047]
theorem spec_l4Breaks.tab1 : rtab .any (opsOf Tryz.f99 1) = spec_l4Breaks.T1 := by kernel_rfl
theorem spec_l4Breaks.bits1 : waitsOk spec_l4Breaks.T1.2 spec_l4Breaks.B1 = true := by kernel_rfl
def spec_l4Breaks.T2 : Bool × List (List Nat × List Nat) := (true, [([], []), ([], []), ([], []), ([], []), ([0, 1, 2, 3], [0, 1, 2, 3]), ([], []), ([], []), ([], []), ([], []), ([5, 6, 7, 8, 4], [5, 6, 7, 8]), ([4, 9], [4, 9]), ([10, 9, 0, 1, 2, 3, 4, 5, 6, 7, 8, 9, 10], [10])])
def spec_l4Breaks.B2 : List Nat := [0, 0, 0, 0, 15, 0, 0, 0, 0, 511, 1023, 2047]
theorem spec_l4Breaks.tab2 : rtab .any (opsOf Tryz.f99 2) = spec_l4Breaks.T2 := by kernel_rfl
theorem spec_l4Breaks.bits2 : waitsOk spec_l4Breaks.T2.2 spec_l4Breaks.B2 = true := by kernel_rfl
def spec_l4Breaks.T3 : Bool × List (List Nat × List Nat) := (true, [([], []), ([], []), ([], []), ([], []), ([0, 1, 2, 3], [0, 1, 2, 3]), ([4], [4]), ([], []), ([], []), ([], []), ([], []), ([6, 7, 8, 9, 4], [6, 7, 8, 9]), ([5, 10], [5, 10]), ([11, 10, 0, 1, 2, 3, 4, 5, 6, 7, 8, 9, 10, 11], [11])])
def spec_l4Breaks.B3 : List Nat := [0, 0, 0, 0, 15, 31, 0, 0, 0, 0, 991, 2047, 4095]
theorem spec_l4Breaks.tab3 : rtab .any (opsOf Tryz.f99 3) = spec_l4Breaks.T3 := by kernel_rfl
theorem spec_l4Breaks.bits3 : waitsOk spec_l4Breaks.T3.2 spec_l4Breaks.B3 = true := by kernel_rfl
set_option maxHeartbeats 8000000 in
set_option maxRecDepth 100000 in
theorem spec_l4Breaks.calls (k : Nat) (a0_0 : Int) (a0_1 : ByteArray) (a1 : Int) (a2 : Int) (a3 : Int) (a4 : Int) (a5 : Int) (r : Bool) (w : World) (h : spec_l4Breaks.f k a0_0 a0_1 a1 a2 a3 a4 a5 = some r) :
  Calls Tryz.prog 99 #[.agg #[.int .i64 a0_0, .string a0_1], .int .i64 a1, .int .i64 a2, .int .i64 a3, .int .i64 a4, .int .i64 a5] w fun e w' => e = .returned (.bool r) ∧ Below w.heap.size w w' := by
 have hu45 := Tryz.underlying45
 have HB := aM_ (Below.refl w.heap.size w)
 have H : ((spec_l3At.f k a0_0 a0_1 a1 a2 a3).bind fun t102 => ((spec_l3At.f k a0_0 a0_1 a1 a4 a5).bind fun t103 => ((spec_l3At.f k a0_0 a0_1 a1 a2 a5).bind fun t104 => ((spec_l3At.f k a0_0 a0_1 a1 a3 a4).bind fun t105 => ((spec_l3At.f k a0_0 a0_1 a1 a2 a4).bind fun t106 => ((spec_l3At.f k a0_0 a0_1 a1 a3 a5).bind fun t107 => (if (wrap64 (t102 * t103)) = (wrap64 (t104 * t105)) then (some ((wrap64 (t104 * t105)) == (wrap64 ((wrap64 (-t106)) * t107)))) else (some false)))))))) = some r := h
 clear h
 replace H := oB_ H
 obtain ⟨t102, A70, H⟩ := H
 have A7 := aM_ A70
 clear A70
 replace H := oB_ H
 obtain ⟨t103, A80, H⟩ := H
 have A8 := aM_ A80
 clear A80
 replace H := oB_ H
 obtain ⟨t104, A90, H⟩ := H
 have A9 := aM_ A90
 clear A90
 replace H := oB_ H
 obtain ⟨t105, A100, H⟩ := H
 have A10 := aM_ A100
 clear A100
 replace H := oB_ H
 obtain ⟨t106, A110, H⟩ := H
 have A11 := aM_ A110
 clear A110
 replace H := oB_ H
 obtain ⟨t107, A120, H⟩ := H
 have A12 := aM_ A120
 clear A120
 rcases ifc_ H with ⟨c13, H⟩ | ⟨c13, H⟩
 ·have c13b0 : ((wrap64 (t102 * t103)) == (wrap64 (t104 * t105))) = true := beq_iff_eq.mpr c13
  have c13b1 : ((wrap64 (t102 * t103)) != (wrap64 (t104 * t105))) = false := bne_eq_false_iff_eq.mpr c13
  clear c13
  obtain rfl := Option.some.inj H
  go_enter Tryz.func99, Tryz.ntmps99
  try go_wp2_with (first | ((with_reducible refine gate_dst (N := 6) rfl ?_); refine boxE_ (N := 6) #[.int .i64 a0_0, .string a0_1] 45 ?_; intro gb101 hg w14 hbox hb; have BK101 := aM_ (hbox); have GW101 := aM_ ((bs_ HB hg)); have GE101 := aM_ ((bs_ HB hg)); replace HB := aM_ (below_step (bB_ HB) hb); clear hb hbox hg))
  replace BK101 := aM_ (blk_drew BK101.out)
  replace HB := aM_ (bD_ HB.out)
  refine start_ (n := 12) (S := fun w' => w'.cell? ⟨gb101, 0, none⟩ = some (.int .i64 a0_0) ∧ w'.cell? ⟨gb101, 1, none⟩ = some (.string a0_1)) (ds := []) (bm 12 0) (by kernel_rfl) rfl rfl ⟨bc_ BK101 0, bc_ BK101 1⟩ (fun hHeld => ?_); refine with_tabW spec_l4Breaks.tab1 spec_l4Breaks.bits1 (fun HT_ HW_ => ?_)
  generalize w14.drew = w15 at BK101 HB hHeld ⊢
  refine plan_ ((0, 1, 17, 2) :: (0, 2, 18, 6) :: (0, 3, 19, 14) :: (0, 6, 22, 78) :: (0, 7, 23, 206) :: (0, 8, 24, 462) :: (2, 0, 16, 463) :: (2, 5, 21, 495) :: []) ?_
  iterate 8 (first | refine pV_ HT_ ?_ | refine pT_ HT_ HW_ hHeld ?_)
  refine planEnd_ ?_
  refine one_ (i := 4) (N := some 20) (bm 12 511) rfl rfl (one_of HT_.out (by kernel_rfl)) (by decide) (fun K hK => ?_)
  refine goesO_ Tryz.func73 #[.agg #[.int .i64 a0_0, .string a0_1], .int .i64 a1, .int .i64 a2, .int .i64 a3] ?_
  with_reducible refine (spec_l3At.calls k a0_0 a0_1 a1 a2 a3 t102 _ A7.out).mono ?_
  rintro e w16 ⟨rfl, hb⟩
  refine ⟨_, rfl, ?_⟩
  replace BK101 := aM_ (bkb_ BK101 hb)
  replace HB := aM_ (below_step (bB_ HB) hb)
  (try clear hb)
  refine hK.out _ _ ⟨bc_ BK101 0, bc_ BK101 1⟩ (fun hHeld => ?_)
  clear hK K
  refine nrm_ ?_
  refine one_ (i := 9) (N := some 25) (bm 12 1023) rfl rfl (one_of HT_.out (by kernel_rfl)) (by decide) (fun K hK => ?_)
  refine goesO_ Tryz.func73 #[.agg #[.int .i64 a0_0, .string a0_1], .int .i64 a1, .int .i64 a4, .int .i64 a5] ?_
  with_reducible refine (spec_l3At.calls k a0_0 a0_1 a1 a4 a5 t103 _ A8.out).mono ?_
  rintro e w17 ⟨rfl, hb⟩
  refine ⟨_, rfl, ?_⟩
  replace BK101 := aM_ (bkb_ BK101 hb)
  replace HB := aM_ (below_step (bB_ HB) hb)
  (try clear hb)
  refine hK.out _ _ ⟨bc_ BK101 0, bc_ BK101 1⟩ (fun hHeld => ?_)
  clear hK K
  refine nrm_ ?_
  refine plan_ ((0, 10, 26, 2047) :: (0, 11, 13, 4095) :: []) ?_
  iterate 2 (first | refine pV_ HT_ ?_)
  refine planEnd_ ?_
  refine done_ (done_of HT_.out (by kernel_rfl)) ?_
  try go_wp2
  replace BK101 := aM_ (blk_drew BK101.out)
  replace HB := aM_ (bD_ HB.out)
  refine start_ (n := 12) (S := fun w' => w'.cell? ⟨gb101, 0, none⟩ = some (.int .i64 a0_0) ∧ w'.cell? ⟨gb101, 1, none⟩ = some (.string a0_1)) (ds := []) (bm 12 0) (by kernel_rfl) rfl rfl ⟨bc_ BK101 0, bc_ BK101 1⟩ (fun hHeld => ?_); refine with_tabW spec_l4Breaks.tab2 spec_l4Breaks.bits2 (fun HT_ HW_ => ?_)
  generalize w17.drew = w18 at BK101 HB hHeld ⊢
  refine plan_ ((0, 1, 28, 2) :: (0, 2, 29, 6) :: (0, 3, 30, 14) :: (0, 6, 33, 78) :: (0, 7, 34, 206) :: (0, 8, 35, 462) :: (2, 0, 27, 463) :: (2, 5, 32, 495) :: []) ?_
  iterate 8 (first | refine pV_ HT_ ?_ | refine pT_ HT_ HW_ hHeld ?_)
  refine planEnd_ ?_
  refine one_ (i := 4) (N := some 31) (bm 12 511) rfl rfl (one_of HT_.out (by kernel_rfl)) (by decide) (fun K hK => ?_)
  refine goesO_ Tryz.func73 #[.agg #[.int .i64 a0_0, .string a0_1], .int .i64 a1, .int .i64 a2, .int .i64 a5] ?_
  with_reducible refine (spec_l3At.calls k a0_0 a0_1 a1 a2 a5 t104 _ A9.out).mono ?_
  rintro e w19 ⟨rfl, hb⟩
  refine ⟨_, rfl, ?_⟩
  replace BK101 := aM_ (bkb_ BK101 hb)
  replace HB := aM_ (below_step (bB_ HB) hb)
  (try clear hb)
  refine hK.out _ _ ⟨bc_ BK101 0, bc_ BK101 1⟩ (fun hHeld => ?_)
  clear hK K
  refine nrm_ ?_
  refine one_ (i := 9) (N := some 36) (bm 12 1023) rfl rfl (one_of HT_.out (by kernel_rfl)) (by decide) (fun K hK => ?_)
  refine goesO_ Tryz.func73 #[.agg #[.int .i64 a0_0, .string a0_1], .int .i64 a1, .int .i64 a3, .int .i64 a4] ?_
  with_reducible refine (spec_l3At.calls k a0_0 a0_1 a1 a3 a4 t105 _ A10.out).mono ?_
  rintro e w20 ⟨rfl, hb⟩
  refine ⟨_, rfl, ?_⟩
  replace BK101 := aM_ (bkb_ BK101 hb)
  replace HB := aM_ (below_step (bB_ HB) hb)
  (try clear hb)
  refine hK.out _ _ ⟨bc_ BK101 0, bc_ BK101 1⟩ (fun hHeld => ?_)
  clear hK K
  refine nrm_ ?_
  refine plan_ ((0, 10, 37, 2047) :: (0, 11, 14, 4095) :: []) ?_
  iterate 2 (first | refine pV_ HT_ ?_)
  refine planEnd_ ?_
  refine done_ (done_of HT_.out (by kernel_rfl)) ?_
  try go_wp2
  replace BK101 := aM_ (blk_drew BK101.out)
  replace HB := aM_ (bD_ HB.out)
  refine start_ (n := 13) (S := fun w' => w'.cell? ⟨gb101, 0, none⟩ = some (.int .i64 a0_0) ∧ w'.cell? ⟨gb101, 1, none⟩ = some (.string a0_1)) (ds := []) (bm 13 0) (by kernel_rfl) rfl rfl ⟨bc_ BK101 0, bc_ BK101 1⟩ (fun hHeld => ?_); refine with_tabW spec_l4Breaks.tab3 spec_l4Breaks.bits3 (fun HT_ HW_ => ?_)
  generalize w20.drew = w21 at BK101 HB hHeld ⊢
  refine plan_ ((0, 1, 39, 2) :: (0, 2, 40, 6) :: (0, 3, 41, 14) :: (0, 7, 45, 142) :: (0, 8, 46, 398) :: (0, 9, 47, 910) :: (2, 0, 38, 911) :: (2, 6, 44, 975) :: []) ?_
  iterate 8 (first | refine pV_ HT_ ?_ | refine pT_ HT_ HW_ hHeld ?_)
  refine planEnd_ ?_
  refine one_ (i := 4) (N := some 42) (bm 13 991) rfl rfl (one_of HT_.out (by kernel_rfl)) (by decide) (fun K hK => ?_)
  refine goesO_ Tryz.func73 #[.agg #[.int .i64 a0_0, .string a0_1], .int .i64 a1, .int .i64 a2, .int .i64 a4] ?_
  with_reducible refine (spec_l3At.calls k a0_0 a0_1 a1 a2 a4 t106 _ A11.out).mono ?_
  rintro e w22 ⟨rfl, hb⟩
  refine ⟨_, rfl, ?_⟩
  replace BK101 := aM_ (bkb_ BK101 hb)
  replace HB := aM_ (below_step (bB_ HB) hb)
  (try clear hb)
  refine hK.out _ _ ⟨bc_ BK101 0, bc_ BK101 1⟩ (fun hHeld => ?_)
  clear hK K
  refine nrm_ ?_
  refine plan_ ((0, 5, 43, 1023) :: []) ?_
  iterate 1 (first | refine pV_ HT_ ?_)
  refine planEnd_ ?_
  refine one_ (i := 10) (N := some 48) (bm 13 2047) rfl rfl (one_of HT_.out (by kernel_rfl)) (by decide) (fun K hK => ?_)
  refine goesO_ Tryz.func73 #[.agg #[.int .i64 a0_0, .string a0_1], .int .i64 a1, .int .i64 a3, .int .i64 a5] ?_
  with_reducible refine (spec_l3At.calls k a0_0 a0_1 a1 a3 a5 t107 _ A12.out).mono ?_
  rintro e w23 ⟨rfl, hb⟩
  refine ⟨_, rfl, ?_⟩
  replace BK101 := aM_ (bkb_ BK101 hb)
  replace HB := aM_ (below_step (bB_ HB) hb)
  (try clear hb)
  refine hK.out _ _ ⟨bc_ BK101 0, bc_ BK101 1⟩ (fun hHeld => ?_)
  clear hK K
  refine nrm_ ?_
  refine plan_ ((0, 11, 49, 4095) :: (0, 12, 15, 8191) :: []) ?_
  iterate 2 (first | refine pV_ HT_ ?_)
  refine planEnd_ ?_
  refine done_ (done_of HT_.out (by kernel_rfl)) ?_
  try go_wp2
  go_ret
  exact ⟨verr_, bB_ HB⟩
 ·have c13b0 : ((wrap64 (t102 * t103)) == (wrap64 (t104 * t105))) = false := beq_eq_false_iff_ne.mpr c13
  have c13b1 : ((wrap64 (t102 * t103)) != (wrap64 (t104 * t105))) = true := bne_iff_ne.mpr c13
  obtain rfl := Option.some.inj H
  go_enter Tryz.func99, Tryz.ntmps99
  try go_wp2_with (first | ((with_reducible refine gate_dst (N := 6) rfl ?_); refine boxE_ (N := 6) #[.int .i64 a0_0, .string a0_1] 45 ?_; intro gb101 hg w24 hbox hb; have BK101 := aM_ (hbox); have GW101 := aM_ ((bs_ HB hg)); have GE101 := aM_ ((bs_ HB hg)); replace HB := aM_ (below_step (bB_ HB) hb); clear hb hbox hg))
  replace BK101 := aM_ (blk_drew BK101.out)
  replace HB := aM_ (bD_ HB.out)
  refine start_ (n := 12) (S := fun w' => w'.cell? ⟨gb101, 0, none⟩ = some (.int .i64 a0_0) ∧ w'.cell? ⟨gb101, 1, none⟩ = some (.string a0_1)) (ds := []) (bm 12 0) (by kernel_rfl) rfl rfl ⟨bc_ BK101 0, bc_ BK101 1⟩ (fun hHeld => ?_); refine with_tabW spec_l4Breaks.tab1 spec_l4Breaks.bits1 (fun HT_ HW_ => ?_)
  generalize w24.drew = w25 at BK101 HB hHeld ⊢
  refine plan_ ((0, 1, 17, 2) :: (0, 2, 18, 6) :: (0, 3, 19, 14) :: (0, 6, 22, 78) :: (0, 7, 23, 206) :: (0, 8, 24, 462) :: (2, 0, 16, 463) :: (2, 5, 21, 495) :: []) ?_
  iterate 8 (first | refine pV_ HT_ ?_ | refine pT_ HT_ HW_ hHeld ?_)
  refine planEnd_ ?_
  refine one_ (i := 4) (N := some 20) (bm 12 511) rfl rfl (one_of HT_.out (by kernel_rfl)) (by decide) (fun K hK => ?_)
  refine goesO_ Tryz.func73 #[.agg #[.int .i64 a0_0, .string a0_1], .int .i64 a1, .int .i64 a2, .int .i64 a3] ?_
  with_reducible refine (spec_l3At.calls k a0_0 a0_1 a1 a2 a3 t102 _ A7.out).mono ?_
  rintro e w26 ⟨rfl, hb⟩
  refine ⟨_, rfl, ?_⟩
  replace BK101 := aM_ (bkb_ BK101 hb)
  replace HB := aM_ (below_step (bB_ HB) hb)
  (try clear hb)
  refine hK.out _ _ ⟨bc_ BK101 0, bc_ BK101 1⟩ (fun hHeld => ?_)
  clear hK K
  refine nrm_ ?_
  refine one_ (i := 9) (N := some 25) (bm 12 1023) rfl rfl (one_of HT_.out (by kernel_rfl)) (by decide) (fun K hK => ?_)
  refine goesO_ Tryz.func73 #[.agg #[.int .i64 a0_0, .string a0_1], .int .i64 a1, .int .i64 a4, .int .i64 a5] ?_
  with_reducible refine (spec_l3At.calls k a0_0 a0_1 a1 a4 a5 t103 _ A8.out).mono ?_
  rintro e w27 ⟨rfl, hb⟩
  refine ⟨_, rfl, ?_⟩
  replace BK101 := aM_ (bkb_ BK101 hb)
  replace HB := aM_ (below_step (bB_ HB) hb)
  (try clear hb)
  refine hK.out _ _ ⟨bc_ BK101 0, bc_ BK101 1⟩ (fun hHeld => ?_)
  clear hK K
  refine nrm_ ?_
  refine plan_ ((0, 10, 26, 2047) :: (0, 11, 13, 4095) :: []) ?_
  iterate 2 (first | refine pV_ HT_ ?_)
  refine planEnd_ ?_
  refine done_ (done_of HT_.out (by kernel_rfl)) ?_
  try go_wp2
  replace BK101 := aM_ (blk_drew BK101.out)
  replace HB := aM_ (bD_ HB.out)
  refine start_ (n := 12) (S := fun w' => w'.cell? ⟨gb101, 0, none⟩ = some (.int .i64 a0_0) ∧ w'.cell? ⟨gb101, 1, none⟩ = some (.string a0_1)) (ds := []) (bm 12 0) (by kernel_rfl) rfl rfl ⟨bc_ BK101 0, bc_ BK101 1⟩ (fun hHeld => ?_); refine with_tabW spec_l4Breaks.tab2 spec_l4Breaks.bits2 (fun HT_ HW_ => ?_)
  generalize w27.drew = w28 at BK101 HB hHeld ⊢
  refine plan_ ((0, 1, 28, 2) :: (0, 2, 29, 6) :: (0, 3, 30, 14) :: (0, 6, 33, 78) :: (0, 7, 34, 206) :: (0, 8, 35, 462) :: (2, 0, 27, 463) :: (2, 5, 32, 495) :: []) ?_
  iterate 8 (first | refine pV_ HT_ ?_ | refine pT_ HT_ HW_ hHeld ?_)
  refine planEnd_ ?_
  refine one_ (i := 4) (N := some 31) (bm 12 511) rfl rfl (one_of HT_.out (by kernel_rfl)) (by decide) (fun K hK => ?_)
  refine goesO_ Tryz.func73 #[.agg #[.int .i64 a0_0, .string a0_1], .int .i64 a1, .int .i64 a2, .int .i64 a5] ?_
  with_reducible refine (spec_l3At.calls k a0_0 a0_1 a1 a2 a5 t104 _ A9.out).mono ?_
  rintro e w29 ⟨rfl, hb⟩
  refine ⟨_, rfl, ?_⟩
  replace BK101 := aM_ (bkb_ BK101 hb)
  replace HB := aM_ (below_step (bB_ HB) hb)
  (try clear hb)
  refine hK.out _ _ ⟨bc_ BK101 0, bc_ BK101 1⟩ (fun hHeld => ?_)
  clear hK K
  refine nrm_ ?_
  refine one_ (i := 9) (N := some 36) (bm 12 1023) rfl rfl (one_of HT_.out (by kernel_rfl)) (by decide) (fun K hK => ?_)
  refine goesO_ Tryz.func73 #[.agg #[.int .i64 a0_0, .string a0_1], .int .i64 a1, .int .i64 a3, .int .i64 a4] ?_
  with_reducible refine (spec_l3At.calls k a0_0 a0_1 a1 a3 a4 t105 _ A10.out).mono ?_
  rintro e w30 ⟨rfl, hb⟩
  refine ⟨_, rfl, ?_⟩
  replace BK101 := aM_ (bkb_ BK101 hb)
  replace HB := aM_ (below_step (bB_ HB) hb)
  (try clear hb)
  refine hK.out _ _ ⟨bc_ BK101 0, bc_ BK101 1⟩ (fun hHeld => ?_)
  clear hK K
  refine nrm_ ?_
  refine plan_ ((0, 10, 37, 2047) :: (0, 11, 14, 4095) :: []) ?_
  iterate 2 (first | refine pV_ HT_ ?_)
  refine planEnd_ ?_
  refine done_ (done_of HT_.out (by kernel_rfl)) ?_
  try go_wp2
  replace BK101 := aM_ (blk_drew BK101.out)
  replace HB := aM_ (bD_ HB.out)
  refine start_ (n := 13) (S := fun w' => w'.cell? ⟨gb101, 0, none⟩ = some (.int .i64 a0_0) ∧ w'.cell? ⟨gb101, 1, none⟩ = some (.string a0_1)) (ds := []) (bm 13 0) (by kernel_rfl) rfl rfl ⟨bc_ BK101 0, bc_ BK101 1⟩ (fun hHeld => ?_); refine with_tabW spec_l4Breaks.tab3 spec_l4Breaks.bits3 (fun HT_ HW_ => ?_)
  generalize w30.drew = w31 at BK101 HB hHeld ⊢
  refine plan_ ((0, 1, 39, 2) :: (0, 2, 40, 6) :: (0, 3, 41, 14) :: (0, 7, 45, 142) :: (0, 8, 46, 398) :: (0, 9, 47, 910) :: (2, 0, 38, 911) :: (2, 6, 44, 975) :: []) ?_
  iterate 8 (first | refine pV_ HT_ ?_ | refine pT_ HT_ HW_ hHeld ?_)
  refine planEnd_ ?_
  refine one_ (i := 4) (N := some 42) (bm 13 991) rfl rfl (one_of HT_.out (by kernel_rfl)) (by decide) (fun K hK => ?_)
  refine goesO_ Tryz.func73 #[.agg #[.int .i64 a0_0, .string a0_1], .int .i64 a1, .int .i64 a2, .int .i64 a4] ?_
  with_reducible refine (spec_l3At.calls k a0_0 a0_1 a1 a2 a4 t106 _ A11.out).mono ?_
  rintro e w32 ⟨rfl, hb⟩
  refine ⟨_, rfl, ?_⟩
  replace BK101 := aM_ (bkb_ BK101 hb)
  replace HB := aM_ (below_step (bB_ HB) hb)
  (try clear hb)
  refine hK.out _ _ ⟨bc_ BK101 0, bc_ BK101 1⟩ (fun hHeld => ?_)
  clear hK K
  refine nrm_ ?_
  refine plan_ ((0, 5, 43, 1023) :: []) ?_
  iterate 1 (first | refine pV_ HT_ ?_)
  refine planEnd_ ?_
  refine one_ (i := 10) (N := some 48) (bm 13 2047) rfl rfl (one_of HT_.out (by kernel_rfl)) (by decide) (fun K hK => ?_)
  refine goesO_ Tryz.func73 #[.agg #[.int .i64 a0_0, .string a0_1], .int .i64 a1, .int .i64 a3, .int .i64 a5] ?_
  with_reducible refine (spec_l3At.calls k a0_0 a0_1 a1 a3 a5 t107 _ A12.out).mono ?_
  rintro e w33 ⟨rfl, hb⟩
  refine ⟨_, rfl, ?_⟩
  replace BK101 := aM_ (bkb_ BK101 hb)
  replace HB := aM_ (below_step (bB_ HB) hb)
  (try clear hb)
  refine hK.out _ _ ⟨bc_ BK101 0, bc_ BK101 1⟩ (fun hHeld => ?_)
  clear hK K
  refine nrm_ ?_
  refine plan_ ((0, 11, 49, 4095) :: (0, 12, 15, 8191) :: []) ?_
  iterate 2 (first | refine pV_ HT_ ?_)
  refine planEnd_ ?_
  refine done_ (done_of HT_.out (by kernel_rfl)) ?_
  try go_wp2
  go_ret
  exact ⟨verr_, bB_ HB⟩
end Go.Proofs.YteaagaekdkolnaaGreatDoor.P

namespace Go.Proofs.YteaagaekdkolnaaGreatDoor.P
open Go.RowKit Go.Proofs.YteaagaekdkolnaaGreatDoorW.PrintWords Go.Proofs.YteaagaekdkolnaaGreatDoorW.PrintLast Go.Proofs.YteaagaekdkolnaaGreatDoorW.PrintMore
attribute [local go_sem] max2_int min2_int max_two min_two max_three min_three max_four min_four   -- for this text's walks alone
set_option linter.unusedVariables false
set_option linter.unusedSimpArgs false
/-! ### spec_FirstBreak: function 86 -/
mutual
def spec_FirstBreak.l0 : Nat → Int → Int → ByteArray → Option (List Int)
 | 0, _, _, _ => none
 | k + 1, x3, x102000, x102001 => if x3 < x102000 then ((spec_AreSigns.f k x102000 x102001).bind fun t102 => (spec_FirstBreak.j1 k x3 t102 x102000 x102001)) else (spec_FirstBreak.j1 k x3 false x102000 x102001)
def spec_FirstBreak.j1 : Nat → Int → Bool → Int → ByteArray → Option (List Int)
 | 0, _, _, _, _ => none
 | k + 1, x3, x16, x102000, x102001 => if x16 = true then ((spec_l3Others.f k x102000 x3).bind fun t106 => (spec_FirstBreak.l1 k x3 t106 0 x102000 x102001)) else (some (([] : List Int)))
def spec_FirstBreak.l1 : Nat → Int → List Int → Int → Int → ByteArray → Option (List Int)
 | 0, _, _, _, _, _ => none
 | k + 1, x3, x4, x5, x102000, x102001 => if x5 < (x4.length : Int) then (spec_FirstBreak.l2 k x3 x4 x5 (wrap64 (x5 + 1)) x102000 x102001) else (spec_FirstBreak.l0 k (wrap64 (x3 + 1)) x102000 x102001)
def spec_FirstBreak.l2 : Nat → Int → List Int → Int → Int → Int → ByteArray → Option (List Int)
 | 0, _, _, _, _, _, _ => none
 | k + 1, x3, x4, x5, x6, x102000, x102001 => if x6 < (x4.length : Int) then (spec_FirstBreak.l3 k x3 x4 x5 x6 (wrap64 (x6 + 1)) x102000 x102001) else (spec_FirstBreak.l1 k x3 x4 (wrap64 (x5 + 1)) x102000 x102001)
def spec_FirstBreak.l3 : Nat → Int → List Int → Int → Int → Int → Int → ByteArray → Option (List Int)
 | 0, _, _, _, _, _, _, _ => none
 | k + 1, x3, x4, x5, x6, x7, x102000, x102001 => if x7 < (x4.length : Int) then (spec_FirstBreak.l4 k x3 x4 x5 x6 x7 (wrap64 (x7 + 1)) x102000 x102001) else (spec_FirstBreak.l2 k x3 x4 x5 (wrap64 (x6 + 1)) x102000 x102001)
def spec_FirstBreak.l4 : Nat → Int → List Int → Int → Int → Int → Int → Int → ByteArray → Option (List Int)
 | 0, _, _, _, _, _, _, _, _ => none
 | k + 1, x3, x4, x5, x6, x7, x8, x102000, x102001 => if x8 < (x4.length : Int) then (if 0 ≤ x5 then (if x5 < (x4.length : Int) then (if 0 ≤ x6 then (if x6 < (x4.length : Int) then (if 0 ≤ x7 then (if x7 < (x4.length : Int) then (if 0 ≤ x8 then ((spec_l4Breaks.f k x102000 x102001 x3 (rd x4 x5) (rd x4 x6) (rd x4 x7) (rd x4 x8)).bind fun t113 => (if t113 = true then (some (([x3, rd x4 x5, rd x4 x6, rd x4 x7, rd x4 x8] : List Int))) else (spec_FirstBreak.l4 k x3 x4 x5 x6 x7 (wrap64 (x8 + 1)) x102000 x102001))) else (none)) else (none)) else (none)) else (none)) else (none)) else (none)) else (none)) else (spec_FirstBreak.l3 k x3 x4 x5 x6 (wrap64 (x7 + 1)) x102000 x102001)
end
def spec_FirstBreak.f (k : Nat) (a0_0 : Int) (a0_1 : ByteArray) : Option (List Int) := spec_FirstBreak.l0 k 0 a0_0 a0_1
def spec_FirstBreak.T17 : Bool × List (List Nat × List Nat) := (true, [([], []), ([], []), ([], []), ([], []), ([2, 3], [2, 3]), ([4], [4]), ([], []), ([], []), ([6, 7], [6, 7]), ([8], [8]), ([], []), ([], []), ([10, 11], [10, 11]), ([12], [12]), ([], []), ([], []), ([14, 15], [14, 15]), ([16], [16]), ([0, 1, 5, 9, 13, 17], [0, 1, 5, 9, 13, 17])])
def spec_FirstBreak.B17 : List Nat := [0, 0, 0, 0, 12, 28, 0, 0, 192, 448, 0, 0, 3072, 7168, 0, 0, 49152, 114688, 262143]
theorem spec_FirstBreak.tab17 : rtab .any (opsOf Tryz.f86 17) = spec_FirstBreak.T17 := by kernel_rfl
theorem spec_FirstBreak.bits17 : waitsOk spec_FirstBreak.T17.2 spec_FirstBreak.B17 = true := by kernel_rfl
def spec_FirstBreak.T18 : Bool × List (List Nat × List Nat) := (true, [([], []), ([], []), ([], []), ([1, 2], [1, 2]), ([3], [3]), ([], []), ([], []), ([5, 6], [5, 6]), ([7], [7]), ([], []), ([], []), ([9, 10], [9, 10]), ([11], [11]), ([], []), ([], []), ([13, 14], [13, 14]), ([15], [15]), ([0, 4, 8, 12, 16], [0, 4, 8, 12, 16]), ([17, 0, 1, 2, 3, 4, 5, 6, 7, 8, 9, 10, 11, 12, 13, 14, 15, 16, 17], [17])])
def spec_FirstBreak.B18 : List Nat := [0, 0, 0, 6, 14, 0, 0, 96, 224, 0, 0, 1536, 3584, 0, 0, 24576, 57344, 131071, 262143]
theorem spec_FirstBreak.tab18 : rtab .any (opsOf Tryz.f86 18) = spec_FirstBreak.T18 := by kernel_rfl
theorem spec_FirstBreak.bits18 : waitsOk spec_FirstBreak.T18.2 spec_FirstBreak.B18 = true := by kernel_rfl
set_option maxHeartbeats 8000000 in
set_option maxRecDepth 100000 in
theorem spec_FirstBreak.calls (k : Nat) (a0_0 : Int) (a0_1 : ByteArray) (r : List Int) (w : World) (h : spec_FirstBreak.f k a0_0 a0_1 = some r) :
  Calls Tryz.prog 86 #[.agg #[.int .i64 a0_0, .string a0_1]] w fun e w' => ∃ v0_ : Value, e = .returned (v0_) ∧ Kd.R (Kd.int .i64) 3 w' w.heap.size (fun _ => True) v0_ r ∧ Below w.heap.size w w' := by
 have hu45 := Tryz.underlying45
 have HB := aM_ (Below.refl w.heap.size w)
 have H : (spec_FirstBreak.l0 k 0 a0_0 a0_1) = some r := h
 clear h
 have H' := aM_ H
 clear H
 go_enter Tryz.func86, Tryz.ntmps86
 go_wp2_with (first | ((with_reducible refine gate_dst (N := 1) rfl ?_); refine boxE_ (N := 1) #[.int .i64 a0_0, .string a0_1] 45 ?_; intro gb101 hg w2 hbox hb; have BK101 := aM_ (hbox); have GW101 := aM_ ((bs_ HB hg)); have GE101 := aM_ ((bs_ HB hg)); replace HB := aM_ (below_step (bB_ HB) hb); clear hb hbox hg))
 go_loopg [3] k (fun kq v3 w' => ∃ (x3_1 : Int), v3 = .int .i64 x3_1 ∧ Aside0 (spec_FirstBreak.l0 kq x3_1 a0_0 a0_1 = some r) ∧ Aside0 (kq ≤ k) ∧ Aside0 (w'.heap[gb101]? = some (.cells #[.int .i64 a0_0, .string a0_1] 45 (0, 0))) ∧ Aside0 (Below w.heap.size w w'))
 case atStart => exact ⟨(0), veq_, H', ⟨Nat.le_refl _⟩, ⟨bk_ BK101⟩, ⟨bB_ HB⟩⟩
 case round =>
  clear H'
  obtain ⟨x3_1, rfl, HA, HK1, BK101, HB⟩ := hrel
  cases gk with
  | zero => exact absurd HA.out (by simp [spec_FirstBreak.l0])
  | succ k1 =>
   have H := HA.out
   clear HA
   simp only [spec_FirstBreak.l0] at H
   have HC3 := aM_ H
   clear H
   go_upto_region 2 with (fail)
   go_cut [16] (fun v16 wc => ∃ (kq : Nat) (x16_2 : Bool), v16 = .bool x16_2 ∧ Aside0 (spec_FirstBreak.j1 kq x3_1 x16_2 a0_0 a0_1 = some r) ∧ Aside0 (kq ≤ k1) ∧ Aside0 (wc.heap[gb101]? = some (.cells #[.int .i64 a0_0, .string a0_1] 45 (0, 0))) ∧ Aside0 (Below w.heap.size w wc))
   case first =>
    have H := HC3.out
    clear HC3
    rcases ifd_ H with ⟨c4b0, H⟩ | ⟨c4b0, H⟩
    ·(first | rw [c4b0] | (simp only [i64_w, i32_w]; rw [c4b0]) | skip)
     replace H := oB_ H
     obtain ⟨t102, A50, H⟩ := H
     have A5 := aM_ A50
     clear A50
     have H' := aM_ H
     clear H
     have hcz6_0 := bc_ BK101 0
     have hcz6_1 := bc_ BK101 1
     have hfz6_0 := blk_frozen BK101.out 0
     have hfz6_1 := blk_frozen BK101.out 1
     go_wp2_with (first | (go_at_call 85; (with_reducible refine (spec_AreSigns.calls k1 a0_0 a0_1 t102 _ A5.out).mono ?_); rintro e w7 ⟨rfl, hb⟩; replace BK101 := aM_ (bkb_ BK101 hb); replace HB := aM_ (below_step (bB_ HB) hb); (try clear hb); (try clear hk)))
     go_meet
     case rel => exact ⟨_, (t102), veq_, H', ⟨le_ HK1⟩, ⟨bk_ BK101⟩, ⟨bB_ HB⟩⟩
    ·(first | rw [c4b0] | (simp only [i64_w, i32_w]; rw [c4b0]) | skip)
     have H' := aM_ H
     clear H
     have hcz8_0 := bc_ BK101 0
     have hcz8_1 := bc_ BK101 1
     have hfz8_0 := blk_frozen BK101.out 0
     have hfz8_1 := blk_frozen BK101.out 1
     go_wp2
     go_meet
     case rel => exact ⟨_, (false), veq_, H', ⟨le_ HK1⟩, ⟨bk_ BK101⟩, ⟨bB_ HB⟩⟩
   case rest =>
    clear HC3
    try clear c4b0
    try clear hcz6_0
    try clear hcz6_1
    try clear hcz8_0
    try clear hcz8_1
    try clear hfz6_0
    try clear hfz6_1
    try clear hfz8_0
    try clear hfz8_1
    obtain ⟨kq, x16_2, rfl, HA, HJ2, BK101, HB⟩ := hcut
    cases kq with
    | zero => exact absurd HA.out (by simp [spec_FirstBreak.j1])
    | succ kj2 =>
     have H := HA.out
     clear HA
     simp only [spec_FirstBreak.j1] at H
     by_cases c9 : x16_2 = true
     ·subst c9
      rw [if_pos rfl] at H
      replace H := oB_ H
      obtain ⟨t106, A100, H⟩ := H
      have A10 := aM_ A100
      clear A100
      have H' := aM_ H
      clear H
      have hcz11_0 := bc_ BK101 0
      have hcz11_1 := bc_ BK101 1
      have hfz11_0 := blk_frozen BK101.out 0
      have hfz11_1 := blk_frozen BK101.out 1
      go_wp2_with (first | ((with_reducible refine gate_callee (f := 98) rfl ?_); refine goesM_ (some 22) Tryz.func98 #[.int .i64 a0_0, .int .i64 x3_1] ?_; (with_reducible refine (spec_l3Others.calls kj2 a0_0 x3_1 t106 _ A10.out).mono ?_); rintro e w12 ⟨v107, rfl, ho0, hb⟩; refine ⟨_, rfl, ?_⟩; have HO108 := aM_ (Kd.R_lower ho0 (below_size (bB_ HB))); replace BK101 := aM_ (bkb_ BK101 hb); replace HB := aM_ (below_step (bB_ HB) hb); (try clear hb); (try clear hk); (try clear ho0)))
      go_loopg [5] kj2 (fun kq v5 w' => ∃ (x5_3 : Int), v5 = .int .i64 x5_3 ∧ Aside0 (spec_FirstBreak.l1 kq x3_1 t106 x5_3 a0_0 a0_1 = some r) ∧ Aside0 (kq ≤ kj2) ∧ Aside0 (Kd.R (Kd.int .i64) 3 w' w.heap.size (fun _ => True) v107 t106) ∧ Aside0 (w'.heap[gb101]? = some (.cells #[.int .i64 a0_0, .string a0_1] 45 (0, 0))) ∧ Aside0 (Below w.heap.size w w'))
      case atStart => exact ⟨(0), veq_, H', ⟨Nat.le_refl _⟩, ⟨kr_ HO108⟩, ⟨bk_ BK101⟩, ⟨bB_ HB⟩⟩
      case round =>
       clear H'
       try clear c4b0
       try clear c9
       try clear hcz11_0
       try clear hcz11_1
       try clear hcz6_0
       try clear hcz6_1
       try clear hcz8_0
       try clear hcz8_1
       try clear hfz11_0
       try clear hfz11_1
       try clear hfz6_0
       try clear hfz6_1
       try clear hfz8_0
       try clear hfz8_1
       obtain ⟨x5_3, rfl, HA, HK3, HO_4, BK101, HB⟩ := hrel
       cases gk with
       | zero => exact absurd HA.out (by simp [spec_FirstBreak.l1])
       | succ k3 =>
        have H := HA.out
        clear HA
        simp only [spec_FirstBreak.l1] at H
        rcases ifd_ H with ⟨c13b0, H⟩ | ⟨c13b0, H⟩
        ·have H' := aM_ H
         clear H
         obtain ⟨Ao14, co14, eo14⟩ := Kd.R_slice HO_4.out
         subst eo14
         go_wp2
         go_loopg [6] k3 (fun kq v6 w' => ∃ (x6_4 : Int), v6 = .int .i64 x6_4 ∧ Aside0 (spec_FirstBreak.l2 kq x3_1 t106 x5_3 x6_4 a0_0 a0_1 = some r) ∧ Aside0 (kq ≤ k3) ∧ Aside0 (Kd.R (Kd.int .i64) 3 w' w.heap.size (fun _ => True) (.slice Ao14 t106.length co14) t106) ∧ Aside0 (w'.heap[gb101]? = some (.cells #[.int .i64 a0_0, .string a0_1] 45 (0, 0))) ∧ Aside0 (Below w.heap.size w w'))
         case atStart => exact ⟨(wrap64 (x5_3 + 1)), veq_, H', ⟨Nat.le_refl _⟩, ⟨kr_ HO_4⟩, ⟨bk_ BK101⟩, ⟨bB_ HB⟩⟩
         case round =>
          clear H'
          try clear c4b0
          try clear c9
          try clear c13b0
          try clear hcz11_0
          try clear hcz11_1
          try clear hcz6_0
          try clear hcz6_1
          try clear hcz8_0
          try clear hcz8_1
          try clear hfz11_0
          try clear hfz11_1
          try clear hfz6_0
          try clear hfz6_1
          try clear hfz8_0
          try clear hfz8_1
          obtain ⟨x6_4, rfl, HA, HK4, HO_4, BK101, HB⟩ := hrel
          cases gk with
          | zero => exact absurd HA.out (by simp [spec_FirstBreak.l2])
          | succ k4 =>
           have H := HA.out
           clear HA
           simp only [spec_FirstBreak.l2] at H
           rcases ifd_ H with ⟨c15b0, H⟩ | ⟨c15b0, H⟩
           ·have H' := aM_ H
            clear H
            go_wp2
            go_loopg [7] k4 (fun kq v7 w' => ∃ (x7_5 : Int), v7 = .int .i64 x7_5 ∧ Aside0 (spec_FirstBreak.l3 kq x3_1 t106 x5_3 x6_4 x7_5 a0_0 a0_1 = some r) ∧ Aside0 (kq ≤ k4) ∧ Aside0 (Kd.R (Kd.int .i64) 3 w' w.heap.size (fun _ => True) (.slice Ao14 t106.length co14) t106) ∧ Aside0 (w'.heap[gb101]? = some (.cells #[.int .i64 a0_0, .string a0_1] 45 (0, 0))) ∧ Aside0 (Below w.heap.size w w'))
            case atStart => exact ⟨(wrap64 (x6_4 + 1)), veq_, H', ⟨Nat.le_refl _⟩, ⟨kr_ HO_4⟩, ⟨bk_ BK101⟩, ⟨bB_ HB⟩⟩
            case round =>
             clear H'
             try clear c4b0
             try clear c9
             try clear c13b0
             try clear c15b0
             try clear hcz11_0
             try clear hcz11_1
             try clear hcz6_0
             try clear hcz6_1
             try clear hcz8_0
             try clear hcz8_1
             try clear hfz11_0
             try clear hfz11_1
             try clear hfz6_0
             try clear hfz6_1
             try clear hfz8_0
             try clear hfz8_1
             obtain ⟨x7_5, rfl, HA, HK5, HO_4, BK101, HB⟩ := hrel
             cases gk with
             | zero => exact absurd HA.out (by simp [spec_FirstBreak.l3])
             | succ k5 =>
              have H := HA.out
              clear HA
              simp only [spec_FirstBreak.l3] at H
              rcases ifd_ H with ⟨c16b0, H⟩ | ⟨c16b0, H⟩
              ·have H' := aM_ H
               clear H
               go_wp2
               go_loopg [8] k5 (fun kq v8 w' => ∃ (x8_6 : Int), v8 = .int .i64 x8_6 ∧ Aside0 (spec_FirstBreak.l4 kq x3_1 t106 x5_3 x6_4 x7_5 x8_6 a0_0 a0_1 = some r) ∧ Aside0 (kq ≤ k5) ∧ Aside0 (Kd.R (Kd.int .i64) 3 w' w.heap.size (fun _ => True) (.slice Ao14 t106.length co14) t106) ∧ Aside0 (w'.heap[gb101]? = some (.cells #[.int .i64 a0_0, .string a0_1] 45 (0, 0))) ∧ Aside0 (Below w.heap.size w w'))
               case atStart => exact ⟨(wrap64 (x7_5 + 1)), veq_, H', ⟨Nat.le_refl _⟩, ⟨kr_ HO_4⟩, ⟨bk_ BK101⟩, ⟨bB_ HB⟩⟩
               case round =>
                clear H'
                try clear c4b0
                try clear c9
                try clear c13b0
                try clear c15b0
                try clear c16b0
                try clear hcz11_0
                try clear hcz11_1
                try clear hcz6_0
                try clear hcz6_1
                try clear hcz8_0
                try clear hcz8_1
                try clear hfz11_0
                try clear hfz11_1
                try clear hfz6_0
                try clear hfz6_1
                try clear hfz8_0
                try clear hfz8_1
                obtain ⟨x8_6, rfl, HA, HK6, HO_4, BK101, HB⟩ := hrel
                cases gk with
                | zero => exact absurd HA.out (by simp [spec_FirstBreak.l4])
                | succ k6 =>
                 have H := HA.out
                 clear HA
                 simp only [spec_FirstBreak.l4] at H
                 rcases ifd_ H with ⟨c17b0, H⟩ | ⟨c17b0, H⟩
                 ·obtain ⟨c18b0, H⟩ := ifn_ H
                  obtain ⟨c19b0, H⟩ := ifn_ H
                  obtain ⟨c20b0, H⟩ := ifn_ H
                  obtain ⟨c21b0, H⟩ := ifn_ H
                  obtain ⟨c22b0, H⟩ := ifn_ H
                  obtain ⟨c23b0, H⟩ := ifn_ H
                  obtain ⟨c24b0, H⟩ := ifn_ H
                  replace H := oB_ H
                  obtain ⟨t113, A250, H⟩ := H
                  have A25 := aM_ A250
                  clear A250
                  by_cases c26 : t113 = true
                  ·subst c26
                   rw [if_pos rfl] at H
                   obtain ⟨y118, hy118⟩ : ∃ y_ : List Int, y_ = (([x3_1, rd t106 x5_3, rd t106 x6_4, rd t106 x7_5, rd t106 x8_6] : List Int)) := ⟨_, rfl⟩
                   replace H : (some y118) = some r := by first | (rw [hy118]; with_reducible exact H) | (have H2_ := (Option.bind_some _ _).symm.trans H; rw [hy118]; with_reducible exact H2_) | (have H2_ := (Option.bind_some _ _).symm.trans H; with_reducible exact H2_) | with_reducible exact H | (rw [hy118]; exact H) | exact H
                   have Ny118 := aM_ hy118
                   clear hy118
                   obtain rfl := Option.some.inj H
                   try go_wp2
                   replace HO_4 := aM_ (kD_ HO_4.out)
                   replace BK101 := aM_ (blk_drew BK101.out)
                   replace HB := aM_ (bD_ HB.out)
                   obtain ⟨p109, q109, ad109, e109, hx109_0⟩ := atW_ (Kd.at_int (Kd.R_reads' HO_4.out).2.2 x5_3)
                   cases e109
                   obtain ⟨p110, q110, ad110, e110, hx110_0⟩ := atW_ (Kd.at_int (Kd.R_reads' HO_4.out).2.2 x6_4)
                   obtain rfl : ad109 = ad110 := (by injection e110)
                   obtain ⟨p111, q111, ad111, e111, hx111_0⟩ := atW_ (Kd.at_int (Kd.R_reads' HO_4.out).2.2 x7_5)
                   obtain rfl : ad109 = ad111 := (by injection e111)
                   obtain ⟨p112, q112, ad112, e112, hx112_0⟩ := atW_ (Kd.at_int (Kd.R_reads' HO_4.out).2.2 x8_6)
                   obtain rfl : ad109 = ad112 := (by injection e112)
                   refine start_ (n := 19) (S := fun w' => w'.cell? ⟨gb101, 0, none⟩ = some (.int .i64 a0_0) ∧ w'.cell? ⟨gb101, 1, none⟩ = some (.string a0_1) ∧ w'.cell? (ad109.add (x5_3).toNat) = some (.int .i64 (rd t106 x5_3)) ∧ w'.cell? (ad109.add (x6_4).toNat) = some (.int .i64 (rd t106 x6_4)) ∧ w'.cell? (ad109.add (x7_5).toNat) = some (.int .i64 (rd t106 x7_5)) ∧ w'.cell? (ad109.add (x8_6).toNat) = some (.int .i64 (rd t106 x8_6))) (ds := []) (bm 19 0) (by kernel_rfl) rfl rfl ⟨bc_ BK101 0, bc_ BK101 1, hx109_0, hx110_0, hx111_0, hx112_0⟩ (fun hHeld => ?_); refine with_tabW spec_FirstBreak.tab17 spec_FirstBreak.bits17 (fun HT_ HW_ => ?_)
                   generalize wr.drew = w27 at HO_4 BK101 HB hx109_0 hx110_0 hx111_0 hx112_0 hHeld ⊢
                   refine plan_ ((0, 1, 54, 2) :: (0, 2, 55, 6) :: (0, 3, 56, 14) :: (0, 4, 57, 30) :: (0, 6, 59, 94) :: (0, 7, 60, 222) :: (0, 8, 61, 478) :: (0, 10, 63, 1502) :: (0, 11, 64, 3550) :: (0, 12, 65, 7646) :: (0, 14, 67, 24030) :: (0, 15, 68, 56798) :: (0, 16, 69, 122334) :: (2, 0, 53, 122335) :: (2, 5, 58, 122367) :: (2, 9, 62, 122879) :: (2, 13, 66, 131071) :: (2, 17, 70, 262143) :: []) ?_
                   iterate 18 (first | refine pV_ HT_ ?_ | refine pT_ HT_ HW_ hHeld ?_)
                   refine planEnd_ ?_
                   refine one_ (i := 18) (N := some 71) (bm 19 524287) rfl rfl (one_of HT_.out (by kernel_rfl)) (by decide) (fun K hK => ?_)
                   refine goesO_ Tryz.func99 #[.agg #[.int .i64 a0_0, .string a0_1], .int .i64 x3_1, .int .i64 (rd t106 x5_3), .int .i64 (rd t106 x6_4), .int .i64 (rd t106 x7_5), .int .i64 (rd t106 x8_6)] ?_
                   with_reducible refine (spec_l4Breaks.calls k6 a0_0 a0_1 x3_1 (rd t106 x5_3) (rd t106 x6_4) (rd t106 x7_5) (rd t106 x8_6) true _ A25.out).mono ?_
                   rintro e w28 ⟨rfl, hb⟩
                   have HS2_ := hc_ hb hHeld.2.2.1
                   have HS3_ := hc_ hb hHeld.2.2.2.1
                   have HS4_ := hc_ hb hHeld.2.2.2.2.1
                   have HS5_ := hc_ hb hHeld.2.2.2.2.2
                   refine ⟨_, rfl, ?_⟩
                   replace HO_4 := aM_ (Kd.R_below (kr_ HO_4) hb)
                   replace BK101 := aM_ (bkb_ BK101 hb)
                   replace HB := aM_ (below_step (bB_ HB) hb)
                   (try clear hb)
                   (try clear hk)
                   refine hK.out _ _ ⟨bc_ BK101 0, bc_ BK101 1, HS2_, HS3_, HS4_, HS5_⟩ (fun hHeld => ?_)
                   clear hK K
                   refine nrm_ ?_
                   refine done_ (done_of HT_.out (by kernel_rfl)) ?_
                   try go_wp2
                   replace HO_4 := aM_ (kD_ HO_4.out)
                   replace BK101 := aM_ (blk_drew BK101.out)
                   replace HB := aM_ (bD_ HB.out)
                   obtain ⟨p114, q114, ad114, e114, hx114_0⟩ := atW_ (Kd.at_int (Kd.R_reads' HO_4.out).2.2 x5_3)
                   obtain rfl : ad109 = ad114 := (by injection e114)
                   obtain ⟨p115, q115, ad115, e115, hx115_0⟩ := atW_ (Kd.at_int (Kd.R_reads' HO_4.out).2.2 x6_4)
                   obtain rfl : ad109 = ad115 := (by injection e115)
                   obtain ⟨p116, q116, ad116, e116, hx116_0⟩ := atW_ (Kd.at_int (Kd.R_reads' HO_4.out).2.2 x7_5)
                   obtain rfl : ad109 = ad116 := (by injection e116)
                   obtain ⟨p117, q117, ad117, e117, hx117_0⟩ := atW_ (Kd.at_int (Kd.R_reads' HO_4.out).2.2 x8_6)
                   obtain rfl : ad109 = ad117 := (by injection e117)
                   refine start_ (n := 19) (S := fun w' => w'.cell? (ad109.add (x5_3).toNat) = some (.int .i64 (rd t106 x5_3)) ∧ w'.cell? (ad109.add (x6_4).toNat) = some (.int .i64 (rd t106 x6_4)) ∧ w'.cell? (ad109.add (x7_5).toNat) = some (.int .i64 (rd t106 x7_5)) ∧ w'.cell? (ad109.add (x8_6).toNat) = some (.int .i64 (rd t106 x8_6))) (ds := []) (bm 19 0) (by kernel_rfl) rfl rfl ⟨hx114_0, hx115_0, hx116_0, hx117_0⟩ (fun hHeld => ?_); refine with_tabW spec_FirstBreak.tab18 spec_FirstBreak.bits18 (fun HT_ HW_ => ?_)
                   generalize w28.drew = w29 at HO_4 BK101 HB hx114_0 hx115_0 hx116_0 hx117_0 hHeld ⊢
                   refine plan_ ((0, 0, 72, 1) :: (0, 1, 73, 3) :: (0, 2, 74, 7) :: (0, 3, 75, 15) :: (0, 5, 77, 47) :: (0, 6, 78, 111) :: (0, 7, 79, 239) :: (0, 9, 81, 751) :: (0, 10, 82, 1775) :: (0, 11, 83, 3823) :: (0, 13, 85, 12015) :: (0, 14, 86, 28399) :: (0, 15, 87, 61167) :: (2, 4, 76, 61183) :: (2, 8, 80, 61439) :: (2, 12, 84, 65535) :: (2, 16, 88, 131071) :: []) ?_
                   iterate 17 (first | refine pV_ HT_ ?_ | refine pT_ HT_ HW_ hHeld ?_)
                   refine planEnd_ ?_
                   refine one_ (i := 17) (N := some 89) (bm 19 262143) rfl rfl (one_of HT_.out (by kernel_rfl)) (by decide) (fun K hK => ?_)
                   refine Kd.R_lit_step (Kd.int .i64) _ 3 ?hg (N := 89) ?hd (xs := ([x3_1, rd t106 x5_3, rd t106 x6_4, rd t106 x7_5, rd t106 x8_6] : List Int)) (inner := [.int .i64 x3_1, .int .i64 (rd t106 x5_3), .int .i64 (rd t106 x6_4), .int .i64 (rd t106 x7_5), .int .i64 (rd t106 x8_6)]) (ok := fun _ => True) (okp := fun _ => True) ?hr ?hp (fun _ hk => hk) trivial (Below.refl _ _) (Nat.le_refl _) (by simp) ?_; (case hd => rfl); (case hg => rfl); (case hr => first | (go_simp; done) | (go_simp; rfl)); (case hp => exact (Reps.one (show Kd.M (Kd.int .i64) _ _ _ x3_1 [.int .i64 x3_1] from rfl) (Reps.one (show Kd.M (Kd.int .i64) _ _ _ (rd t106 x5_3) [.int .i64 (rd t106 x5_3)] from rfl) (Reps.one (show Kd.M (Kd.int .i64) _ _ _ (rd t106 x6_4) [.int .i64 (rd t106 x6_4)] from rfl) (Reps.one (show Kd.M (Kd.int .i64) _ _ _ (rd t106 x7_5) [.int .i64 (rd t106 x7_5)] from rfl) (Reps.one (show Kd.M (Kd.int .i64) _ _ _ (rd t106 x8_6) [.int .i64 (rd t106 x8_6)] from rfl) (Reps.none _ _)))))))
                   intro v119 w30 ho31 hb hg_ hnew_
                   have HS0_ := hc_ hb hHeld.1
                   have HS1_ := hc_ hb hHeld.2.1
                   have HS2_ := hc_ hb hHeld.2.2.1
                   have HS3_ := hc_ hb hHeld.2.2.2
                   clear hg_ hnew_
                   (first | rw [← Ny118.out] at ho31 | (simp only [Int.reduceToNat] at ho31; rw [← Ny118.out] at ho31))
                   have HO120 := aM_ (Kd.R_lower (Kd.R_new' ho31 (Kd.R_lt (kr_ HO_4))) (below_size (bB_ HB)))
                   replace HO_4 := aM_ (Kd.R_elder' (kr_ HO_4) (Kd.R_base ho31) hb)
                   replace BK101 := aM_ (bkb_ BK101 hb)
                   replace HB := aM_ (below_step (bB_ HB) hb)
                   clear hb ho31
                   refine hK.out _ _ ⟨HS0_, HS1_, HS2_, HS3_⟩ (fun hHeld => ?_)
                   clear hK K
                   refine nrm_ ?_
                   refine plan_ ((0, 18, 2, 524287) :: []) ?_
                   iterate 1 (first | refine pV_ HT_ ?_)
                   refine planEnd_ ?_
                   refine done_ (done_of HT_.out (by kernel_rfl)) ?_
                   try go_wp2
                   go_ret
                   exact ⟨_, verr_, by (with_reducible repeat (first | apply kA_ | apply kN_ | apply kD_)); exact Kd.R_mono HO120.out (fun _ hk => trivial), bB_ HB⟩
                  ·replace c26 := Bool.eq_false_iff.mpr c26
                   subst c26
                   rw [if_neg (show ¬ (false = true) by decide)] at H
                   have H' := aM_ H
                   clear H
                   try go_wp2
                   replace HO_4 := aM_ (kD_ HO_4.out)
                   replace BK101 := aM_ (blk_drew BK101.out)
                   replace HB := aM_ (bD_ HB.out)
                   obtain ⟨p109, q109, ad109, e109, hx109_0⟩ := atW_ (Kd.at_int (Kd.R_reads' HO_4.out).2.2 x5_3)
                   cases e109
                   obtain ⟨p110, q110, ad110, e110, hx110_0⟩ := atW_ (Kd.at_int (Kd.R_reads' HO_4.out).2.2 x6_4)
                   obtain rfl : ad109 = ad110 := (by injection e110)
                   obtain ⟨p111, q111, ad111, e111, hx111_0⟩ := atW_ (Kd.at_int (Kd.R_reads' HO_4.out).2.2 x7_5)
                   obtain rfl : ad109 = ad111 := (by injection e111)
                   obtain ⟨p112, q112, ad112, e112, hx112_0⟩ := atW_ (Kd.at_int (Kd.R_reads' HO_4.out).2.2 x8_6)
                   obtain rfl : ad109 = ad112 := (by injection e112)
                   refine start_ (n := 19) (S := fun w' => w'.cell? ⟨gb101, 0, none⟩ = some (.int .i64 a0_0) ∧ w'.cell? ⟨gb101, 1, none⟩ = some (.string a0_1) ∧ w'.cell? (ad109.add (x5_3).toNat) = some (.int .i64 (rd t106 x5_3)) ∧ w'.cell? (ad109.add (x6_4).toNat) = some (.int .i64 (rd t106 x6_4)) ∧ w'.cell? (ad109.add (x7_5).toNat) = some (.int .i64 (rd t106 x7_5)) ∧ w'.cell? (ad109.add (x8_6).toNat) = some (.int .i64 (rd t106 x8_6))) (ds := []) (bm 19 0) (by kernel_rfl) rfl rfl ⟨bc_ BK101 0, bc_ BK101 1, hx109_0, hx110_0, hx111_0, hx112_0⟩ (fun hHeld => ?_); refine with_tabW spec_FirstBreak.tab17 spec_FirstBreak.bits17 (fun HT_ HW_ => ?_)
                   generalize wr.drew = w32 at HO_4 BK101 HB hx109_0 hx110_0 hx111_0 hx112_0 hHeld ⊢
                   refine plan_ ((0, 1, 54, 2) :: (0, 2, 55, 6) :: (0, 3, 56, 14) :: (0, 4, 57, 30) :: (0, 6, 59, 94) :: (0, 7, 60, 222) :: (0, 8, 61, 478) :: (0, 10, 63, 1502) :: (0, 11, 64, 3550) :: (0, 12, 65, 7646) :: (0, 14, 67, 24030) :: (0, 15, 68, 56798) :: (0, 16, 69, 122334) :: (2, 0, 53, 122335) :: (2, 5, 58, 122367) :: (2, 9, 62, 122879) :: (2, 13, 66, 131071) :: (2, 17, 70, 262143) :: []) ?_
                   iterate 18 (first | refine pV_ HT_ ?_ | refine pT_ HT_ HW_ hHeld ?_)
                   refine planEnd_ ?_
                   refine one_ (i := 18) (N := some 71) (bm 19 524287) rfl rfl (one_of HT_.out (by kernel_rfl)) (by decide) (fun K hK => ?_)
                   refine goesO_ Tryz.func99 #[.agg #[.int .i64 a0_0, .string a0_1], .int .i64 x3_1, .int .i64 (rd t106 x5_3), .int .i64 (rd t106 x6_4), .int .i64 (rd t106 x7_5), .int .i64 (rd t106 x8_6)] ?_
                   with_reducible refine (spec_l4Breaks.calls k6 a0_0 a0_1 x3_1 (rd t106 x5_3) (rd t106 x6_4) (rd t106 x7_5) (rd t106 x8_6) false _ A25.out).mono ?_
                   rintro e w33 ⟨rfl, hb⟩
                   have HS2_ := hc_ hb hHeld.2.2.1
                   have HS3_ := hc_ hb hHeld.2.2.2.1
                   have HS4_ := hc_ hb hHeld.2.2.2.2.1
                   have HS5_ := hc_ hb hHeld.2.2.2.2.2
                   refine ⟨_, rfl, ?_⟩
                   replace HO_4 := aM_ (Kd.R_below (kr_ HO_4) hb)
                   replace BK101 := aM_ (bkb_ BK101 hb)
                   replace HB := aM_ (below_step (bB_ HB) hb)
                   (try clear hb)
                   (try clear hk)
                   refine hK.out _ _ ⟨bc_ BK101 0, bc_ BK101 1, HS2_, HS3_, HS4_, HS5_⟩ (fun hHeld => ?_)
                   clear hK K
                   refine nrm_ ?_
                   refine done_ (done_of HT_.out (by kernel_rfl)) ?_
                   try go_wp2
                   go_roundg k6
                   case measure => have := HK1.out; have := HJ2.out; have := HK3.out; have := HK4.out; have := HK5.out; have := HK6.out; omega
                   case rel => exact ⟨(wrap64 (x8_6 + 1)), veq_, H', ⟨by have := HK1.out; have := HJ2.out; have := HK3.out; have := HK4.out; have := HK5.out; have := HK6.out; omega⟩, ⟨kr_ HO_4⟩, ⟨bk_ BK101⟩, ⟨bB_ HB⟩⟩
                 ·have H' := aM_ H
                  clear H
                  go_wp2
                  go_roundg k6
                  case measure => have := HK1.out; have := HJ2.out; have := HK3.out; have := HK4.out; have := HK5.out; have := HK6.out; omega
                  case rel => exact ⟨(wrap64 (x7_5 + 1)), veq_, H', ⟨by have := HK1.out; have := HJ2.out; have := HK3.out; have := HK4.out; have := HK5.out; have := HK6.out; omega⟩, ⟨kr_ HO_4⟩, ⟨bk_ BK101⟩, ⟨bB_ HB⟩⟩
              ·have H' := aM_ H
               clear H
               go_wp2
               go_roundg k5
               case measure => have := HK1.out; have := HJ2.out; have := HK3.out; have := HK4.out; have := HK5.out; omega
               case rel => exact ⟨(wrap64 (x6_4 + 1)), veq_, H', ⟨by have := HK1.out; have := HJ2.out; have := HK3.out; have := HK4.out; have := HK5.out; omega⟩, ⟨kr_ HO_4⟩, ⟨bk_ BK101⟩, ⟨bB_ HB⟩⟩
           ·have H' := aM_ H
            clear H
            go_wp2
            go_roundg k4
            case measure => have := HK1.out; have := HJ2.out; have := HK3.out; have := HK4.out; omega
            case rel => exact ⟨(wrap64 (x5_3 + 1)), veq_, H', ⟨by have := HK1.out; have := HJ2.out; have := HK3.out; have := HK4.out; omega⟩, ⟨kr_ HO_4⟩, ⟨bk_ BK101⟩, ⟨bB_ HB⟩⟩
        ·have H' := aM_ H
         clear H
         obtain ⟨Ao34, co34, eo34⟩ := Kd.R_slice HO_4.out
         subst eo34
         go_wp2
         go_roundg k3
         case measure => have := HK1.out; have := HJ2.out; have := HK3.out; omega
         case rel => exact ⟨(wrap64 (x3_1 + 1)), veq_, H', ⟨by have := HK1.out; have := HJ2.out; have := HK3.out; omega⟩, ⟨bk_ BK101⟩, ⟨bB_ HB⟩⟩
     ·replace c9 := Bool.eq_false_iff.mpr c9
      subst c9
      rw [if_neg (show ¬ (false = true) by decide)] at H
      obtain ⟨y103, hy103⟩ : ∃ y_ : List Int, y_ = (([] : List Int)) := ⟨_, rfl⟩
      replace H : (some y103) = some r := by first | (rw [hy103]; with_reducible exact H) | (have H2_ := (Option.bind_some _ _).symm.trans H; rw [hy103]; with_reducible exact H2_) | (have H2_ := (Option.bind_some _ _).symm.trans H; with_reducible exact H2_) | with_reducible exact H | (rw [hy103]; exact H) | exact H
      have Ny103 := aM_ hy103
      clear hy103
      obtain rfl := Option.some.inj H
      go_wp2_with (first | ((with_reducible refine gate_dst (N := 90) rfl ?_); refine Kd.R_lit (Kd.int .i64) _ 3 ?hg (N := 90) ?hd (xs := ([] : List Int)) (inner := []) (ok := fun _ => True) (okp := fun _ => True) ?hr ?hp (fun _ hk => hk) trivial (Below.refl _ _) (Nat.le_refl _) (by simp) ?_; (case hd => rfl); (case hg => rfl); (case hr => first | (go_simp; done) | (go_simp; rfl)); (case hp => exact (Reps.none _ _)); intro v104 w35 ho36 hb hg_ hnew_; clear hg_ hnew_; (first | rw [← Ny103.out] at ho36 | (simp only [Int.reduceToNat] at ho36; rw [← Ny103.out] at ho36)); have HO105 := aM_ (Kd.R_lower ho36 (below_size (bB_ HB))); replace BK101 := aM_ (bkb_ BK101 hb); replace HB := aM_ (below_step (bB_ HB) hb); clear hb ho36))
      go_ret
      exact ⟨_, verr_, kr_ HO105, bB_ HB⟩
end Go.Proofs.YteaagaekdkolnaaGreatDoor.P

namespace Go.Proofs.YteaagaekdkolnaaGreatDoor.P
open Go.RowKit Go.Proofs.YteaagaekdkolnaaGreatDoorW.PrintWords Go.Proofs.YteaagaekdkolnaaGreatDoorW.PrintLast Go.Proofs.YteaagaekdkolnaaGreatDoorW.PrintMore
attribute [local go_sem] max2_int min2_int max_two min_two max_three min_three max_four min_four   -- for this text's walks alone
set_option linter.unusedVariables false
set_option linter.unusedSimpArgs false
/-! ### spec_IsMatroid: function 70 -/
def spec_IsMatroid.f (k : Nat) (a0_0 : Int) (a0_1 : ByteArray) : Option (Bool) := (spec_AreSigns.f k a0_0 a0_1).bind fun t102 => (if t102 = true then ((spec_FirstBreak.f k a0_0 a0_1).bind fun t103 => (some ((t103.length : Int) == 0))) else (some false))
set_option maxHeartbeats 8000000 in
set_option maxRecDepth 100000 in
theorem spec_IsMatroid.calls (k : Nat) (a0_0 : Int) (a0_1 : ByteArray) (r : Bool) (w : World) (h : spec_IsMatroid.f k a0_0 a0_1 = some r) :
  Calls Tryz.prog 70 #[.agg #[.int .i64 a0_0, .string a0_1]] w fun e w' => e = .returned (.bool r) ∧ Below w.heap.size w w' := by
 have hu45 := Tryz.underlying45
 have HB := aM_ (Below.refl w.heap.size w)
 have H : ((spec_AreSigns.f k a0_0 a0_1).bind fun t102 => (if t102 = true then ((spec_FirstBreak.f k a0_0 a0_1).bind fun t103 => (some ((t103.length : Int) == 0))) else (some false))) = some r := h
 clear h
 replace H := oB_ H
 obtain ⟨t102, A20, H⟩ := H
 have A2 := aM_ A20
 clear A20
 by_cases c3 : t102 = true
 ·subst c3
  rw [if_pos rfl] at H
  replace H := oB_ H
  obtain ⟨t103, A40, H⟩ := H
  have A4 := aM_ A40
  clear A40
  obtain rfl := Option.some.inj H
  go_enter Tryz.func70, Tryz.ntmps70
  go_wp2_with (first | ((with_reducible refine gate_dst (N := 1) rfl ?_); (try (refine gate_guard (by rfl) ?_; dsimp only)); refine boxE_ (N := 1) #[.int .i64 a0_0, .string a0_1] 45 ?_; intro gb101 hg w5 hbox hb; have BK101 := aM_ (hbox); have GW101 := aM_ ((bs_ HB hg)); have GE101 := aM_ ((bs_ HB hg)); replace HB := aM_ (below_step (bB_ HB) hb); clear hb hbox hg; have hcz6_0 := bc_ BK101 0; have hcz6_1 := bc_ BK101 1; have hfz6_0 := blk_frozen BK101.out 0; have hfz6_1 := blk_frozen BK101.out 1) | ((with_reducible refine gate_callee (f := 85) rfl ?_); refine goesM_ (some 4) Tryz.func85 #[.agg #[.int .i64 a0_0, .string a0_1]] ?_; (with_reducible refine (spec_AreSigns.calls k a0_0 a0_1 true _ A2.out).mono ?_); rintro e w7 ⟨rfl, hb⟩; refine ⟨_, rfl, ?_⟩; replace BK101 := aM_ (bkb_ BK101 hb); replace HB := aM_ (below_step (bB_ HB) hb); (try clear hb); have hcz8_0 := bc_ BK101 0; have hcz8_1 := bc_ BK101 1; have hfz8_0 := blk_frozen BK101.out 0; have hfz8_1 := blk_frozen BK101.out 1) | (go_at_call 86; (with_reducible refine (spec_FirstBreak.calls k a0_0 a0_1 t103 _ A4.out).mono ?_); rintro e w9 ⟨v104, rfl, ho0, hb⟩; have HO105 := aM_ (Kd.R_lower ho0 (below_size (bB_ HB))); replace BK101 := aM_ (bkb_ BK101 hb); replace HB := aM_ (below_step (bB_ HB) hb); (try clear hb); (try clear ho0); obtain ⟨Ao10, co10, eo10⟩ := Kd.R_slice HO105.out; subst eo10))
  go_ret
  exact ⟨verr_, bB_ HB⟩
 ·replace c3 := Bool.eq_false_iff.mpr c3
  subst c3
  rw [if_neg (show ¬ (false = true) by decide)] at H
  obtain rfl := Option.some.inj H
  go_enter Tryz.func70, Tryz.ntmps70
  go_wp2_with (first | ((with_reducible refine gate_dst (N := 1) rfl ?_); (try (refine gate_guard (by rfl) ?_; dsimp only)); refine boxE_ (N := 1) #[.int .i64 a0_0, .string a0_1] 45 ?_; intro gb101 hg w11 hbox hb; have BK101 := aM_ (hbox); have GW101 := aM_ ((bs_ HB hg)); have GE101 := aM_ ((bs_ HB hg)); replace HB := aM_ (below_step (bB_ HB) hb); clear hb hbox hg; have hcz12_0 := bc_ BK101 0; have hcz12_1 := bc_ BK101 1; have hfz12_0 := blk_frozen BK101.out 0; have hfz12_1 := blk_frozen BK101.out 1) | ((with_reducible refine gate_callee (f := 85) rfl ?_); refine goesM_ (some 4) Tryz.func85 #[.agg #[.int .i64 a0_0, .string a0_1]] ?_; (with_reducible refine (spec_AreSigns.calls k a0_0 a0_1 false _ A2.out).mono ?_); rintro e w13 ⟨rfl, hb⟩; refine ⟨_, rfl, ?_⟩; replace BK101 := aM_ (bkb_ BK101 hb); replace HB := aM_ (below_step (bB_ HB) hb); (try clear hb)))
  go_ret
  exact ⟨verr_, bB_ HB⟩
end Go.Proofs.YteaagaekdkolnaaGreatDoor.P

namespace Go.Proofs.YteaagaekdkolnaaGreatDoor.P
open Go.RowKit Go.Proofs.YteaagaekdkolnaaGreatDoorW.PrintWords Go.Proofs.YteaagaekdkolnaaGreatDoorW.PrintLast Go.Proofs.YteaagaekdkolnaaGreatDoorW.PrintMore
attribute [local go_sem] max2_int min2_int max_two min_two max_three min_three max_four min_four   -- for this text's walks alone
set_option linter.unusedVariables false
set_option linter.unusedSimpArgs false
/-! ### spec_l4Circuit: function 87 -/
def spec_l4Circuit.f (k : Nat) (a0_0 : Int) (a0_1 : ByteArray) (a1 : Int) (a2 : Int) (a3 : Int) (a4 : Int) : Option (ByteArray) := (spec_l3At.f k a0_0 a0_1 a2 a3 a4).bind fun t102 => ((spec_l3At.f k a0_0 a0_1 a1 a3 a4).bind fun t103 => ((spec_l3Byte.f (wrap64 ((wrap64 (-t102)) * t103))).bind fun t104 => (if 1 + t104.size ≤ 9223372036854775807 then ((spec_l3At.f k a0_0 a0_1 a1 a2 a4).bind fun t105 => ((spec_l3Byte.f (wrap64 (t102 * t105))).bind fun t106 => (if ((⟨#[43]⟩ : ByteArray) ++ t104).size + t106.size ≤ 9223372036854775807 then ((spec_l3At.f k a0_0 a0_1 a1 a2 a3).bind fun t107 => ((spec_l3Byte.f (wrap64 ((wrap64 (-t102)) * t107))).bind fun t108 => (if (((⟨#[43]⟩ : ByteArray) ++ t104) ++ t106).size + t108.size ≤ 9223372036854775807 then (some ((((⟨#[43]⟩ : ByteArray) ++ t104) ++ t106) ++ t108)) else (none)))) else (none)))) else (none))))
theorem spec_l4Circuit.mono : ∀ a0 a1 a2 a3 a4 a5 k, LeO (spec_l4Circuit.f k a0 a1 a2 a3 a4 a5) (spec_l4Circuit.f (k + 1) a0 a1 a2 a3 a4 a5) := by
 intro a0 a1 a2 a3 a4 a5 k
 unfold spec_l4Circuit.f
 repeat' first
   | (with_reducible exact spec_l3At.mono _ _ _ _ _ _)
   | (with_reducible exact LeO.refl _)
   | (with_reducible exact LeO.none _)
   | (with_reducible refine LeO.ite ?_ ?_)
   | (with_reducible refine LeO.bind ?_ (fun _ => ?_))
def spec_l4Circuit.T2 : Bool × List (List Nat × List Nat) := (true, [([], []), ([0], [0]), ([], []), ([], []), ([], []), ([], []), ([2, 3, 4, 5], [2, 3, 4, 5]), ([1, 6], [1, 6]), ([7, 6], [7]), ([8], [8]), ([], []), ([], []), ([], []), ([], []), ([], []), ([11, 12, 13, 14, 8], [11, 12, 13, 14]), ([10, 15], [10, 15]), ([16, 15], [16]), ([9, 17], [9, 17]), ([18, 17, 0, 1, 2, 3, 4, 5, 6, 7, 8, 9, 10, 11, 12, 13, 14, 15, 16, 17, 18], [18])])
def spec_l4Circuit.B2 : List Nat := [0, 1, 0, 0, 0, 0, 60, 127, 255, 511, 0, 0, 0, 0, 0, 31231, 65023, 130559, 262143, 524287]
theorem spec_l4Circuit.tab2 : rtab .any (opsOf Tryz.f87 2) = spec_l4Circuit.T2 := by kernel_rfl
theorem spec_l4Circuit.bits2 : waitsOk spec_l4Circuit.T2.2 spec_l4Circuit.B2 = true := by kernel_rfl
set_option maxHeartbeats 8000000 in
set_option maxRecDepth 100000 in
theorem spec_l4Circuit.calls (k : Nat) (a0_0 : Int) (a0_1 : ByteArray) (a1 : Int) (a2 : Int) (a3 : Int) (a4 : Int) (r : ByteArray) (w : World) (h : spec_l4Circuit.f k a0_0 a0_1 a1 a2 a3 a4 = some r) :
  Calls Tryz.prog 87 #[.agg #[.int .i64 a0_0, .string a0_1], .int .i64 a1, .int .i64 a2, .int .i64 a3, .int .i64 a4] w fun e w' => e = .returned (.string r) ∧ Below w.heap.size w w' := by
 have hu45 := Tryz.underlying45
 have HB := aM_ (Below.refl w.heap.size w)
 have H : ((spec_l3At.f k a0_0 a0_1 a2 a3 a4).bind fun t102 => ((spec_l3At.f k a0_0 a0_1 a1 a3 a4).bind fun t103 => ((spec_l3Byte.f (wrap64 ((wrap64 (-t102)) * t103))).bind fun t104 => (if 1 + t104.size ≤ 9223372036854775807 then ((spec_l3At.f k a0_0 a0_1 a1 a2 a4).bind fun t105 => ((spec_l3Byte.f (wrap64 (t102 * t105))).bind fun t106 => (if ((⟨#[43]⟩ : ByteArray) ++ t104).size + t106.size ≤ 9223372036854775807 then ((spec_l3At.f k a0_0 a0_1 a1 a2 a3).bind fun t107 => ((spec_l3Byte.f (wrap64 ((wrap64 (-t102)) * t107))).bind fun t108 => (if (((⟨#[43]⟩ : ByteArray) ++ t104) ++ t106).size + t108.size ≤ 9223372036854775807 then (some ((((⟨#[43]⟩ : ByteArray) ++ t104) ++ t106) ++ t108)) else (none)))) else (none)))) else (none))))) = some r := h
 clear h
 replace H := oB_ H
 obtain ⟨t102, A60, H⟩ := H
 have A6 := aM_ A60
 clear A60
 replace H := oB_ H
 obtain ⟨t103, A70, H⟩ := H
 have A7 := aM_ A70
 clear A70
 replace H := oB_ H
 obtain ⟨t104, A80, H⟩ := H
 have A8 := aM_ A80
 clear A80
 obtain ⟨c9, H⟩ := ifp_ H
 have c9b0 := eq_true c9
 have c9b1 := decide_eq_true c9
 try have c9b2 : (9223372036854775807 < 1 + t104.size) = False := eq_false (Nat.not_lt.2 c9)
 replace H := oB_ H
 obtain ⟨t105, A100, H⟩ := H
 have A10 := aM_ A100
 clear A100
 replace H := oB_ H
 obtain ⟨t106, A110, H⟩ := H
 have A11 := aM_ A110
 clear A110
 obtain ⟨c12, H⟩ := ifp_ H
 have c12b0 := eq_true c12
 have c12b1 := decide_eq_true c12
 try have c12b2 : (9223372036854775807 < ((⟨#[43]⟩ : ByteArray) ++ t104).size + t106.size) = False := eq_false (Nat.not_lt.2 c12)
 have c12s2 : (9223372036854775807 < 1 + t104.size + t106.size) = False := eq_false (Nat.not_lt.2 (by have h_ := c12; simp only [ByteArray.size_append] at h_; exact h_))
 replace H := oB_ H
 obtain ⟨t107, A130, H⟩ := H
 have A13 := aM_ A130
 clear A130
 replace H := oB_ H
 obtain ⟨t108, A140, H⟩ := H
 have A14 := aM_ A140
 clear A140
 obtain ⟨c15, H⟩ := ifp_ H
 have c15b0 := eq_true c15
 have c15b1 := decide_eq_true c15
 try have c15b2 : (9223372036854775807 < (((⟨#[43]⟩ : ByteArray) ++ t104) ++ t106).size + t108.size) = False := eq_false (Nat.not_lt.2 c15)
 have c15s2 : (9223372036854775807 < 1 + t104.size + t106.size + t108.size) = False := eq_false (Nat.not_lt.2 (by have h_ := c15; simp only [ByteArray.size_append] at h_; exact h_))
 obtain rfl := Option.some.inj H
 go_enter Tryz.func87, Tryz.ntmps87
 try go_wp2_with (first | ((with_reducible refine gate_dst (N := 5) rfl ?_); refine boxE_ (N := 5) #[.int .i64 a0_0, .string a0_1] 45 ?_; intro gb101 hg w16 hbox hb; have BK101 := aM_ (hbox); have GW101 := aM_ ((bs_ HB hg)); have GE101 := aM_ ((bs_ HB hg)); replace HB := aM_ (below_step (bB_ HB) hb); clear hb hbox hg; have hcz17_0 := bc_ BK101 0; have hcz17_1 := bc_ BK101 1; have hfz17_0 := blk_frozen BK101.out 0; have hfz17_1 := blk_frozen BK101.out 1) | ((with_reducible refine gate_callee (f := 73) rfl ?_); refine goesM_ (some 17) Tryz.func73 #[.agg #[.int .i64 a0_0, .string a0_1], .int .i64 a2, .int .i64 a3, .int .i64 a4] ?_; (with_reducible refine (spec_l3At.calls k a0_0 a0_1 a2 a3 a4 t102 _ A6.out).mono ?_); rintro e w18 ⟨rfl, hb⟩; refine ⟨_, rfl, ?_⟩; replace BK101 := aM_ (bkb_ BK101 hb); replace HB := aM_ (below_step (bB_ HB) hb); (try clear hb)))
 replace BK101 := aM_ (blk_drew BK101.out)
 replace HB := aM_ (bD_ HB.out)
 refine start_ (n := 20) (S := fun w' => w'.cell? ⟨gb101, 0, none⟩ = some (.int .i64 a0_0) ∧ w'.cell? ⟨gb101, 1, none⟩ = some (.string a0_1)) (ds := []) (bm 20 0) (by kernel_rfl) rfl rfl ⟨bc_ BK101 0, bc_ BK101 1⟩ (fun hHeld => ?_); refine with_tabW spec_l4Circuit.tab2 spec_l4Circuit.bits2 (fun HT_ HW_ => ?_)
 generalize w18.drew = w19 at BK101 HB hHeld ⊢
 refine plan_ ((0, 0, 18, 1) :: (0, 1, 19, 3) :: (0, 3, 21, 11) :: (0, 4, 22, 27) :: (0, 5, 23, 59) :: (0, 10, 28, 1083) :: (0, 12, 30, 5179) :: (0, 13, 31, 13371) :: (0, 14, 32, 29755) :: (2, 2, 20, 29759) :: (2, 11, 29, 31807) :: []) ?_
 iterate 11 (first | refine pV_ HT_ ?_ | refine pT_ HT_ HW_ hHeld ?_)
 refine planEnd_ ?_
 refine one_ (i := 6) (N := some 24) (bm 20 31871) rfl rfl (one_of HT_.out (by kernel_rfl)) (by decide) (fun K hK => ?_)
 refine goesO_ Tryz.func73 #[.agg #[.int .i64 a0_0, .string a0_1], .int .i64 a1, .int .i64 a3, .int .i64 a4] ?_
 with_reducible refine (spec_l3At.calls k a0_0 a0_1 a1 a3 a4 t103 _ A7.out).mono ?_
 rintro e w20 ⟨rfl, hb⟩
 refine ⟨_, rfl, ?_⟩
 replace BK101 := aM_ (bkb_ BK101 hb)
 replace HB := aM_ (below_step (bB_ HB) hb)
 (try clear hb)
 refine hK.out _ _ ⟨bc_ BK101 0, bc_ BK101 1⟩ (fun hHeld => ?_)
 clear hK K
 refine nrm_ ?_
 refine plan_ ((0, 7, 25, 31999) :: []) ?_
 iterate 1 (first | refine pV_ HT_ ?_)
 refine planEnd_ ?_
 refine one_ (i := 8) (N := some 26) (bm 20 32255) rfl rfl (one_of HT_.out (by kernel_rfl)) (by decide) (fun K hK => ?_)
 refine goesO_ Tryz.func46 #[.int .i64 (wrap64 ((wrap64 (-t102)) * t103))] ?_
 with_reducible refine (spec_l3Byte.calls (wrap64 ((wrap64 (-t102)) * t103)) t104 _ A8.out).mono ?_
 rintro e w' ⟨rfl, ⟨nd, rfl⟩⟩
 refine ⟨_, rfl, ?_⟩
 refine hK.out _ _ ⟨bc_ BK101 0, bc_ BK101 1⟩ (fun hHeld => ?_)
 clear hK K
 refine nrm_ ?_
 refine plan_ ((0, 9, 27, 32767) :: []) ?_
 iterate 1 (first | refine pV_ HT_ ?_)
 refine planEnd_ ?_
 refine one_ (i := 15) (N := some 33) (bm 20 65535) rfl rfl (one_of HT_.out (by kernel_rfl)) (by decide) (fun K hK => ?_)
 refine goesO_ Tryz.func73 #[.agg #[.int .i64 a0_0, .string a0_1], .int .i64 a1, .int .i64 a2, .int .i64 a4] ?_
 with_reducible refine (spec_l3At.calls k a0_0 a0_1 a1 a2 a4 t105 _ A10.out).mono ?_
 rintro e w21 ⟨rfl, hb⟩
 refine ⟨_, rfl, ?_⟩
 replace BK101 := aM_ (bkb_ BK101 hb)
 replace HB := aM_ (below_step (bB_ HB) hb)
 (try clear hb)
 refine hK.out _ _ ⟨bc_ BK101 0, bc_ BK101 1⟩ (fun hHeld => ?_)
 clear hK K
 refine nrm_ ?_
 refine plan_ ((0, 16, 34, 131071) :: []) ?_
 iterate 1 (first | refine pV_ HT_ ?_)
 refine planEnd_ ?_
 refine one_ (i := 17) (N := some 35) (bm 20 262143) rfl rfl (one_of HT_.out (by kernel_rfl)) (by decide) (fun K hK => ?_)
 refine goesO_ Tryz.func46 #[.int .i64 (wrap64 (t102 * t105))] ?_
 with_reducible refine (spec_l3Byte.calls (wrap64 (t102 * t105)) t106 _ A11.out).mono ?_
 rintro e w' ⟨rfl, ⟨nd, rfl⟩⟩
 refine ⟨_, rfl, ?_⟩
 refine hK.out _ _ ⟨bc_ BK101 0, bc_ BK101 1⟩ (fun hHeld => ?_)
 clear hK K
 refine nrm_ ?_
 refine plan_ ((0, 18, 36, 524287) :: (0, 19, 12, 1048575) :: []) ?_
 iterate 2 (first | refine pV_ HT_ ?_)
 refine planEnd_ ?_
 refine done_ (done_of HT_.out (by kernel_rfl)) ?_
 have hcz22_0 := bc_ BK101 0
 have hcz22_1 := bc_ BK101 1
 have hfz22_0 := blk_frozen BK101.out 0
 have hfz22_1 := blk_frozen BK101.out 1
 try go_wp2_with (first | ((with_reducible refine gate_callee (f := 73) rfl ?_); refine goesM_ (some 44) Tryz.func73 #[.agg #[.int .i64 a0_0, .string a0_1], .int .i64 a1, .int .i64 a2, .int .i64 a3] ?_; (with_reducible refine (spec_l3At.calls k a0_0 a0_1 a1 a2 a3 t107 _ A13.out).mono ?_); rintro e w23 ⟨rfl, hb⟩; refine ⟨_, rfl, ?_⟩; replace BK101 := aM_ (bkb_ BK101 hb); replace HB := aM_ (below_step (bB_ HB) hb); (try clear hb)) | ((with_reducible refine gate_callee (f := 46) rfl ?_); refine goesM_ (some 46) Tryz.func46 #[.int .i64 (wrap64 ((wrap64 (-t102)) * t107))] ?_; (with_reducible refine (spec_l3Byte.calls (wrap64 ((wrap64 (-t102)) * t107)) t108 _ A14.out).mono ?_); rintro e w' ⟨rfl, ⟨nd, rfl⟩⟩; refine ⟨_, rfl, ?_⟩))
 go_ret
 exact ⟨verr_, bB_ HB⟩
end Go.Proofs.YteaagaekdkolnaaGreatDoor.P

namespace Go.Proofs.YteaagaekdkolnaaGreatDoor.P
open Go.RowKit Go.Proofs.YteaagaekdkolnaaGreatDoorW.PrintWords Go.Proofs.YteaagaekdkolnaaGreatDoorW.PrintLast Go.Proofs.YteaagaekdkolnaaGreatDoorW.PrintMore
attribute [local go_sem] max2_int min2_int max_two min_two max_three min_three max_four min_four   -- for this text's walks alone
set_option linter.unusedVariables false
set_option linter.unusedSimpArgs false
/-! ### spec_l4Acyclic: function 71 -/
mutual
def spec_l4Acyclic.l0 : Nat → Int → Int → ByteArray → Option (Bool)
 | 0, _, _, _ => none
 | k + 1, x3, x102000, x102001 => if x3 < x102000 then (spec_l4Acyclic.l1 k x3 (wrap64 (x3 + 1)) x102000 x102001) else (some true)
def spec_l4Acyclic.l1 : Nat → Int → Int → Int → ByteArray → Option (Bool)
 | 0, _, _, _, _ => none
 | k + 1, x3, x4, x102000, x102001 => if x4 < x102000 then (spec_l4Acyclic.l2 k x3 x4 (wrap64 (x4 + 1)) x102000 x102001) else (spec_l4Acyclic.l0 k (wrap64 (x3 + 1)) x102000 x102001)
def spec_l4Acyclic.l2 : Nat → Int → Int → Int → Int → ByteArray → Option (Bool)
 | 0, _, _, _, _, _ => none
 | k + 1, x3, x4, x5, x102000, x102001 => if x5 < x102000 then (spec_l4Acyclic.l3 k x3 x4 x5 (wrap64 (x5 + 1)) x102000 x102001) else (spec_l4Acyclic.l1 k x3 (wrap64 (x4 + 1)) x102000 x102001)
def spec_l4Acyclic.l3 : Nat → Int → Int → Int → Int → Int → ByteArray → Option (Bool)
 | 0, _, _, _, _, _, _ => none
 | k + 1, x3, x4, x5, x6, x102000, x102001 => if x6 < x102000 then ((spec_l4Circuit.f k x102000 x102001 x3 x4 x5 x6).bind fun t102 => (if t102.toList = ([43, 43, 43, 43] : List UInt8) then (some false) else (spec_l4Acyclic.l3 k x3 x4 x5 (wrap64 (x6 + 1)) x102000 x102001))) else (spec_l4Acyclic.l2 k x3 x4 (wrap64 (x5 + 1)) x102000 x102001)
end
def spec_l4Acyclic.f (k : Nat) (a0_0 : Int) (a0_1 : ByteArray) : Option (Bool) := spec_l4Acyclic.l0 k 0 a0_0 a0_1
set_option maxHeartbeats 8000000 in
set_option maxRecDepth 100000 in
theorem spec_l4Acyclic.calls (k : Nat) (a0_0 : Int) (a0_1 : ByteArray) (r : Bool) (w : World) (h : spec_l4Acyclic.f k a0_0 a0_1 = some r) :
  Calls Tryz.prog 71 #[.agg #[.int .i64 a0_0, .string a0_1]] w fun e w' => e = .returned (.bool r) ∧ Below w.heap.size w w' := by
 have hu45 := Tryz.underlying45
 have HB := aM_ (Below.refl w.heap.size w)
 have H : (spec_l4Acyclic.l0 k 0 a0_0 a0_1) = some r := h
 clear h
 have H' := aM_ H
 clear H
 go_enter Tryz.func71, Tryz.ntmps71
 go_wp2_with (first | ((with_reducible refine gate_dst (N := 1) rfl ?_); refine boxE_ (N := 1) #[.int .i64 a0_0, .string a0_1] 45 ?_; intro gb101 hg w2 hbox hb; have BK101 := aM_ (hbox); have GW101 := aM_ ((bs_ HB hg)); have GE101 := aM_ ((bs_ HB hg)); replace HB := aM_ (below_step (bB_ HB) hb); clear hb hbox hg))
 go_loopg [3] k (fun kq v3 w' => ∃ (x3_1 : Int), v3 = .int .i64 x3_1 ∧ Aside0 (spec_l4Acyclic.l0 kq x3_1 a0_0 a0_1 = some r) ∧ Aside0 (kq ≤ k) ∧ Aside0 (w'.heap[gb101]? = some (.cells #[.int .i64 a0_0, .string a0_1] 45 (0, 0))) ∧ Aside0 (Below w.heap.size w w'))
 case atStart => exact ⟨(0), veq_, H', ⟨Nat.le_refl _⟩, ⟨bk_ BK101⟩, ⟨bB_ HB⟩⟩
 case round =>
  clear H'
  obtain ⟨x3_1, rfl, HA, HK1, BK101, HB⟩ := hrel
  cases gk with
  | zero => exact absurd HA.out (by simp [spec_l4Acyclic.l0])
  | succ k1 =>
   have H := HA.out
   clear HA
   simp only [spec_l4Acyclic.l0] at H
   rcases ifd_ H with ⟨c3b0, H⟩ | ⟨c3b0, H⟩
   ·have H' := aM_ H
    clear H
    have hcz4_0 := bc_ BK101 0
    have hcz4_1 := bc_ BK101 1
    have hfz4_0 := blk_frozen BK101.out 0
    have hfz4_1 := blk_frozen BK101.out 1
    go_wp2
    go_loopg [4] k1 (fun kq v4 w' => ∃ (x4_2 : Int), v4 = .int .i64 x4_2 ∧ Aside0 (spec_l4Acyclic.l1 kq x3_1 x4_2 a0_0 a0_1 = some r) ∧ Aside0 (kq ≤ k1) ∧ Aside0 (w'.heap[gb101]? = some (.cells #[.int .i64 a0_0, .string a0_1] 45 (0, 0))) ∧ Aside0 (Below w.heap.size w w'))
    case atStart => exact ⟨(wrap64 (x3_1 + 1)), veq_, H', ⟨Nat.le_refl _⟩, ⟨bk_ BK101⟩, ⟨bB_ HB⟩⟩
    case round =>
     clear H'
     try clear c3b0
     try clear hcz4_0
     try clear hcz4_1
     try clear hfz4_0
     try clear hfz4_1
     obtain ⟨x4_2, rfl, HA, HK2, BK101, HB⟩ := hrel
     cases gk with
     | zero => exact absurd HA.out (by simp [spec_l4Acyclic.l1])
     | succ k2 =>
      have H := HA.out
      clear HA
      simp only [spec_l4Acyclic.l1] at H
      rcases ifd_ H with ⟨c5b0, H⟩ | ⟨c5b0, H⟩
      ·have H' := aM_ H
       clear H
       have hcz6_0 := bc_ BK101 0
       have hcz6_1 := bc_ BK101 1
       have hfz6_0 := blk_frozen BK101.out 0
       have hfz6_1 := blk_frozen BK101.out 1
       go_wp2
       go_loopg [5] k2 (fun kq v5 w' => ∃ (x5_3 : Int), v5 = .int .i64 x5_3 ∧ Aside0 (spec_l4Acyclic.l2 kq x3_1 x4_2 x5_3 a0_0 a0_1 = some r) ∧ Aside0 (kq ≤ k2) ∧ Aside0 (w'.heap[gb101]? = some (.cells #[.int .i64 a0_0, .string a0_1] 45 (0, 0))) ∧ Aside0 (Below w.heap.size w w'))
       case atStart => exact ⟨(wrap64 (x4_2 + 1)), veq_, H', ⟨Nat.le_refl _⟩, ⟨bk_ BK101⟩, ⟨bB_ HB⟩⟩
       case round =>
        clear H'
        try clear c3b0
        try clear c5b0
        try clear hcz4_0
        try clear hcz4_1
        try clear hcz6_0
        try clear hcz6_1
        try clear hfz4_0
        try clear hfz4_1
        try clear hfz6_0
        try clear hfz6_1
        obtain ⟨x5_3, rfl, HA, HK3, BK101, HB⟩ := hrel
        cases gk with
        | zero => exact absurd HA.out (by simp [spec_l4Acyclic.l2])
        | succ k3 =>
         have H := HA.out
         clear HA
         simp only [spec_l4Acyclic.l2] at H
         rcases ifd_ H with ⟨c7b0, H⟩ | ⟨c7b0, H⟩
         ·have H' := aM_ H
          clear H
          have hcz8_0 := bc_ BK101 0
          have hcz8_1 := bc_ BK101 1
          have hfz8_0 := blk_frozen BK101.out 0
          have hfz8_1 := blk_frozen BK101.out 1
          go_wp2
          go_loopg [6] k3 (fun kq v6 w' => ∃ (x6_4 : Int), v6 = .int .i64 x6_4 ∧ Aside0 (spec_l4Acyclic.l3 kq x3_1 x4_2 x5_3 x6_4 a0_0 a0_1 = some r) ∧ Aside0 (kq ≤ k3) ∧ Aside0 (w'.heap[gb101]? = some (.cells #[.int .i64 a0_0, .string a0_1] 45 (0, 0))) ∧ Aside0 (Below w.heap.size w w'))
          case atStart => exact ⟨(wrap64 (x5_3 + 1)), veq_, H', ⟨Nat.le_refl _⟩, ⟨bk_ BK101⟩, ⟨bB_ HB⟩⟩
          case round =>
           clear H'
           try clear c3b0
           try clear c5b0
           try clear c7b0
           try clear hcz4_0
           try clear hcz4_1
           try clear hcz6_0
           try clear hcz6_1
           try clear hcz8_0
           try clear hcz8_1
           try clear hfz4_0
           try clear hfz4_1
           try clear hfz6_0
           try clear hfz6_1
           try clear hfz8_0
           try clear hfz8_1
           obtain ⟨x6_4, rfl, HA, HK4, BK101, HB⟩ := hrel
           cases gk with
           | zero => exact absurd HA.out (by simp [spec_l4Acyclic.l3])
           | succ k4 =>
            have H := HA.out
            clear HA
            simp only [spec_l4Acyclic.l3] at H
            rcases ifd_ H with ⟨c9b0, H⟩ | ⟨c9b0, H⟩
            ·replace H := oB_ H
             obtain ⟨t102, A100, H⟩ := H
             have A10 := aM_ A100
             clear A100
             rcases ifc_ H with ⟨c11, H⟩ | ⟨c11, H⟩
             ·have c11b0 : (t102.toList == ([43, 43, 43, 43] : List UInt8)) = true := beq_iff_eq.mpr c11
              have c11b1 : (t102.toList != ([43, 43, 43, 43] : List UInt8)) = false := bne_eq_false_iff_eq.mpr c11
              clear c11
              obtain rfl := Option.some.inj H
              have hcz12_0 := bc_ BK101 0
              have hcz12_1 := bc_ BK101 1
              have hfz12_0 := blk_frozen BK101.out 0
              have hfz12_1 := blk_frozen BK101.out 1
              go_wp2_with (first | ((with_reducible refine gate_callee (f := 87) rfl ?_); refine goesM_ (some 42) Tryz.func87 #[.agg #[.int .i64 a0_0, .string a0_1], .int .i64 x3_1, .int .i64 x4_2, .int .i64 x5_3, .int .i64 x6_4] ?_; (with_reducible refine (spec_l4Circuit.calls k4 a0_0 a0_1 x3_1 x4_2 x5_3 x6_4 t102 _ A10.out).mono ?_); rintro e w13 ⟨rfl, hb⟩; refine ⟨_, rfl, ?_⟩; replace BK101 := aM_ (bkb_ BK101 hb); replace HB := aM_ (below_step (bB_ HB) hb); (try clear hb)))
              go_ret
              exact ⟨verr_, bB_ HB⟩
             ·have c11b0 : (t102.toList == ([43, 43, 43, 43] : List UInt8)) = false := beq_eq_false_iff_ne.mpr c11
              have c11b1 : (t102.toList != ([43, 43, 43, 43] : List UInt8)) = true := bne_iff_ne.mpr c11
              have H' := aM_ H
              clear H
              have hcz14_0 := bc_ BK101 0
              have hcz14_1 := bc_ BK101 1
              have hfz14_0 := blk_frozen BK101.out 0
              have hfz14_1 := blk_frozen BK101.out 1
              go_wp2_with (first | ((with_reducible refine gate_callee (f := 87) rfl ?_); refine goesM_ (some 42) Tryz.func87 #[.agg #[.int .i64 a0_0, .string a0_1], .int .i64 x3_1, .int .i64 x4_2, .int .i64 x5_3, .int .i64 x6_4] ?_; (with_reducible refine (spec_l4Circuit.calls k4 a0_0 a0_1 x3_1 x4_2 x5_3 x6_4 t102 _ A10.out).mono ?_); rintro e w15 ⟨rfl, hb⟩; refine ⟨_, rfl, ?_⟩; replace BK101 := aM_ (bkb_ BK101 hb); replace HB := aM_ (below_step (bB_ HB) hb); (try clear hb)))
              go_roundg k4
              case measure => have := HK1.out; have := HK2.out; have := HK3.out; have := HK4.out; omega
              case rel => exact ⟨(wrap64 (x6_4 + 1)), veq_, H', ⟨by have := HK1.out; have := HK2.out; have := HK3.out; have := HK4.out; omega⟩, ⟨bk_ BK101⟩, ⟨bB_ HB⟩⟩
            ·have H' := aM_ H
             clear H
             have hcz16_0 := bc_ BK101 0
             have hcz16_1 := bc_ BK101 1
             have hfz16_0 := blk_frozen BK101.out 0
             have hfz16_1 := blk_frozen BK101.out 1
             go_wp2
             go_roundg k4
             case measure => have := HK1.out; have := HK2.out; have := HK3.out; have := HK4.out; omega
             case rel => exact ⟨(wrap64 (x5_3 + 1)), veq_, H', ⟨by have := HK1.out; have := HK2.out; have := HK3.out; have := HK4.out; omega⟩, ⟨bk_ BK101⟩, ⟨bB_ HB⟩⟩
         ·have H' := aM_ H
          clear H
          have hcz17_0 := bc_ BK101 0
          have hcz17_1 := bc_ BK101 1
          have hfz17_0 := blk_frozen BK101.out 0
          have hfz17_1 := blk_frozen BK101.out 1
          go_wp2
          go_roundg k3
          case measure => have := HK1.out; have := HK2.out; have := HK3.out; omega
          case rel => exact ⟨(wrap64 (x4_2 + 1)), veq_, H', ⟨by have := HK1.out; have := HK2.out; have := HK3.out; omega⟩, ⟨bk_ BK101⟩, ⟨bB_ HB⟩⟩
      ·have H' := aM_ H
       clear H
       have hcz18_0 := bc_ BK101 0
       have hcz18_1 := bc_ BK101 1
       have hfz18_0 := blk_frozen BK101.out 0
       have hfz18_1 := blk_frozen BK101.out 1
       go_wp2
       go_roundg k2
       case measure => have := HK1.out; have := HK2.out; omega
       case rel => exact ⟨(wrap64 (x3_1 + 1)), veq_, H', ⟨by have := HK1.out; have := HK2.out; omega⟩, ⟨bk_ BK101⟩, ⟨bB_ HB⟩⟩
   ·obtain rfl := Option.some.inj H
    have hcz19_0 := bc_ BK101 0
    have hcz19_1 := bc_ BK101 1
    have hfz19_0 := blk_frozen BK101.out 0
    have hfz19_1 := blk_frozen BK101.out 1
    go_wp2
    go_ret
    exact ⟨verr_, bB_ HB⟩
end Go.Proofs.YteaagaekdkolnaaGreatDoor.P

namespace Go.Proofs.YteaagaekdkolnaaGreatDoor.P
open Go.RowKit Go.Proofs.YteaagaekdkolnaaGreatDoorW.PrintWords Go.Proofs.YteaagaekdkolnaaGreatDoorW.PrintLast Go.Proofs.YteaagaekdkolnaaGreatDoorW.PrintMore
attribute [local go_sem] max2_int min2_int max_two min_two max_three min_three max_four min_four   -- for this text's walks alone
set_option linter.unusedVariables false
set_option linter.unusedSimpArgs false
/-! ### spec_IsAcyclic: function 47 -/
def spec_IsAcyclic.f (k : Nat) (a0_0 : Int) (a0_1 : ByteArray) : Option (Bool) := (spec_IsMatroid.f k a0_0 a0_1).bind fun t102 => (if t102 = true then ((spec_l4Acyclic.f k a0_0 a0_1).bind fun t103 => (some t103)) else (some false))
set_option maxHeartbeats 8000000 in
set_option maxRecDepth 100000 in
theorem spec_IsAcyclic.calls (k : Nat) (a0_0 : Int) (a0_1 : ByteArray) (r : Bool) (w : World) (h : spec_IsAcyclic.f k a0_0 a0_1 = some r) :
  Calls Tryz.prog 47 #[.agg #[.int .i64 a0_0, .string a0_1]] w fun e w' => e = .returned (.bool r) ∧ Below w.heap.size w w' := by
 have hu45 := Tryz.underlying45
 have HB := aM_ (Below.refl w.heap.size w)
 have H : ((spec_IsMatroid.f k a0_0 a0_1).bind fun t102 => (if t102 = true then ((spec_l4Acyclic.f k a0_0 a0_1).bind fun t103 => (some t103)) else (some false))) = some r := h
 clear h
 replace H := oB_ H
 obtain ⟨t102, A20, H⟩ := H
 have A2 := aM_ A20
 clear A20
 by_cases c3 : t102 = true
 ·subst c3
  rw [if_pos rfl] at H
  replace H := oB_ H
  obtain ⟨t103, A40, H⟩ := H
  have A4 := aM_ A40
  clear A40
  obtain rfl := Option.some.inj H
  go_enter Tryz.func47, Tryz.ntmps47
  go_wp2_with (first | ((with_reducible refine gate_dst (N := 1) rfl ?_); refine boxE_ (N := 1) #[.int .i64 a0_0, .string a0_1] 45 ?_; intro gb101 hg w5 hbox hb; have BK101 := aM_ (hbox); have GW101 := aM_ ((bs_ HB hg)); have GE101 := aM_ ((bs_ HB hg)); replace HB := aM_ (below_step (bB_ HB) hb); clear hb hbox hg; have hcz6_0 := bc_ BK101 0; have hcz6_1 := bc_ BK101 1; have hfz6_0 := blk_frozen BK101.out 0; have hfz6_1 := blk_frozen BK101.out 1) | ((with_reducible refine gate_callee (f := 70) rfl ?_); refine goesM_ (some 4) Tryz.func70 #[.agg #[.int .i64 a0_0, .string a0_1]] ?_; (with_reducible refine (spec_IsMatroid.calls k a0_0 a0_1 true _ A2.out).mono ?_); rintro e w7 ⟨rfl, hb⟩; refine ⟨_, rfl, ?_⟩; replace BK101 := aM_ (bkb_ BK101 hb); replace HB := aM_ (below_step (bB_ HB) hb); (try clear hb); have hcz8_0 := bc_ BK101 0; have hcz8_1 := bc_ BK101 1; have hfz8_0 := blk_frozen BK101.out 0; have hfz8_1 := blk_frozen BK101.out 1) | (go_at_call 71; (with_reducible refine (spec_l4Acyclic.calls k a0_0 a0_1 t103 _ A4.out).mono ?_); rintro e w9 ⟨rfl, hb⟩; replace BK101 := aM_ (bkb_ BK101 hb); replace HB := aM_ (below_step (bB_ HB) hb); (try clear hb)))
  go_ret
  exact ⟨verr_, bB_ HB⟩
 ·replace c3 := Bool.eq_false_iff.mpr c3
  subst c3
  rw [if_neg (show ¬ (false = true) by decide)] at H
  obtain rfl := Option.some.inj H
  go_enter Tryz.func47, Tryz.ntmps47
  go_wp2_with (first | ((with_reducible refine gate_dst (N := 1) rfl ?_); refine boxE_ (N := 1) #[.int .i64 a0_0, .string a0_1] 45 ?_; intro gb101 hg w10 hbox hb; have BK101 := aM_ (hbox); have GW101 := aM_ ((bs_ HB hg)); have GE101 := aM_ ((bs_ HB hg)); replace HB := aM_ (below_step (bB_ HB) hb); clear hb hbox hg; have hcz11_0 := bc_ BK101 0; have hcz11_1 := bc_ BK101 1; have hfz11_0 := blk_frozen BK101.out 0; have hfz11_1 := blk_frozen BK101.out 1) | ((with_reducible refine gate_callee (f := 70) rfl ?_); refine goesM_ (some 4) Tryz.func70 #[.agg #[.int .i64 a0_0, .string a0_1]] ?_; (with_reducible refine (spec_IsMatroid.calls k a0_0 a0_1 false _ A2.out).mono ?_); rintro e w12 ⟨rfl, hb⟩; refine ⟨_, rfl, ?_⟩; replace BK101 := aM_ (bkb_ BK101 hb); replace HB := aM_ (below_step (bB_ HB) hb); (try clear hb)))
  go_ret
  exact ⟨verr_, bB_ HB⟩
end Go.Proofs.YteaagaekdkolnaaGreatDoor.P

namespace Go.Proofs.YteaagaekdkolnaaGreatDoor.P
open Go.RowKit Go.Proofs.YteaagaekdkolnaaGreatDoorW.PrintWords Go.Proofs.YteaagaekdkolnaaGreatDoorW.PrintLast Go.Proofs.YteaagaekdkolnaaGreatDoorW.PrintMore
attribute [local go_sem] max2_int min2_int max_two min_two max_three min_three max_four min_four   -- for this text's walks alone
set_option linter.unusedVariables false
set_option linter.unusedSimpArgs false
/-! ### spec_l6Has: function 49 -/
def spec_l6Has.f (a0 : Int) (a1 : Int) : Option (Bool) := if 0 ≤ (IntKind.u64.wrap (a1)) then (some ((Go.bits .and .i64 (shr .i64 a0 (IntKind.u64.wrap (a1))) 1) == 1)) else (none)
set_option maxHeartbeats 8000000 in
set_option maxRecDepth 100000 in
theorem spec_l6Has.calls (a0 : Int) (a1 : Int) (r : Bool) (w : World) (h : spec_l6Has.f a0 a1 = some r) :
  Calls Tryz.prog 49 #[.int .i64 a0, .int .i64 a1] w fun e w' => e = .returned (.bool r) ∧ Drawn0 w w' := by
 have H : (if 0 ≤ (IntKind.u64.wrap (a1)) then (some ((Go.bits .and .i64 (shr .i64 a0 (IntKind.u64.wrap (a1))) 1) == 1)) else (none)) = some r := h
 clear h
 obtain ⟨ji3, hji3⟩ : ∃ j_ : Int, (IntKind.u64.wrap (a1)) = j_ := ⟨_, rfl⟩
 replace H : (if 0 ≤ (ji3) then (some ((Go.bits .and .i64 (shr .i64 a0 (ji3)) 1) == 1)) else (none)) = some r := by first | (rw [hji3] at H; exact H) | (simp only [hji3] at H ⊢; exact H)
 obtain ⟨c4, H⟩ := ifp_ H
 have c4b0 := eq_true c4
 have c4b1 := decide_eq_true c4
 clear c4
 obtain ⟨ji5, hji5⟩ : ∃ j_ : Int, (shr .i64 a0 (ji3)) = j_ := ⟨_, rfl⟩
 replace H : (some ((Go.bits .and .i64 (ji5) 1) == 1)) = some r := by first | (rw [hji5] at H; exact H) | (simp only [hji5] at H ⊢; exact H)
 have hji5_ : (a0 / 2 ^ min (ji3).toNat 64) = ji5 := hji5
 have hji5z : (ji3) ≤ 64 → (a0 / 2 ^ (ji3).toNat) = ji5 := shr_small hji5
 obtain rfl := Option.some.inj H
 go_enter Tryz.func49, Tryz.ntmps49
 go_wp2
 go_ret
 exact ⟨by first | rfl | (simp; done) | (simp only [← hji3, ← hji5] <;> (first | rfl | simp)) | (simp [*]; done), by repeat (first | exact Drawn0.refl _ | apply Drawn0.step)⟩
end Go.Proofs.YteaagaekdkolnaaGreatDoor.P

namespace Go.Proofs.YteaagaekdkolnaaGreatDoor.P
open Go.RowKit Go.Proofs.YteaagaekdkolnaaGreatDoorW.PrintWords Go.Proofs.YteaagaekdkolnaaGreatDoorW.PrintLast Go.Proofs.YteaagaekdkolnaaGreatDoorW.PrintMore
attribute [local go_sem] max2_int min2_int max_two min_two max_three min_three max_four min_four   -- for this text's walks alone
set_option linter.unusedVariables false
set_option linter.unusedSimpArgs false
/-! ### spec_l1Max: function 53 -/
def spec_l1Max.f (a0 : Int) (a1 : Int) : Option (Int) := if a0 > a1 then (some a0) else (some a1)
set_option maxHeartbeats 8000000 in
set_option maxRecDepth 100000 in
theorem spec_l1Max.calls (a0 : Int) (a1 : Int) (r : Int) (w : World) (h : spec_l1Max.f a0 a1 = some r) :
  Calls Tryz.prog 53 #[.int .i64 a0, .int .i64 a1] w fun e w' => e = .returned (.int .i64 r) ∧ Drawn0 w w' := by
 have H : (if a0 > a1 then (some a0) else (some a1)) = some r := h
 clear h
 rcases ifd_ H with ⟨c3b0, H⟩ | ⟨c3b0, H⟩
 ·obtain rfl := Option.some.inj H
  go_enter Tryz.func53, Tryz.ntmps53
  go_wp2
  go_ret
  exact ⟨veq_, by repeat (first | exact Drawn0.refl _ | apply Drawn0.step)⟩
 ·obtain rfl := Option.some.inj H
  go_enter Tryz.func53, Tryz.ntmps53
  go_wp2
  go_ret
  exact ⟨veq_, by repeat (first | exact Drawn0.refl _ | apply Drawn0.step)⟩
end Go.Proofs.YteaagaekdkolnaaGreatDoor.P

namespace Go.Proofs.YteaagaekdkolnaaGreatDoor.P
open Go.RowKit Go.Proofs.YteaagaekdkolnaaGreatDoorW.PrintWords Go.Proofs.YteaagaekdkolnaaGreatDoorW.PrintLast Go.Proofs.YteaagaekdkolnaaGreatDoorW.PrintMore
attribute [local go_sem] max2_int min2_int max_two min_two max_three min_three max_four min_four   -- for this text's walks alone
set_option linter.unusedVariables false
set_option linter.unusedSimpArgs false
/-! ### spec_l5Split: function 100 -/
def spec_l5Split.l0 : Nat → List Int → ByteArray → Int → Int → Int → Option (Int × Int)
 | 0, _, _, _, _, _ => none
 | k + 1, x1, x6, x7, x8, x9 => if x9 < 4 then (if 0 ≤ x9 then (if x9 < (x6.size : Int) then (if (bt x6 x9) = 43 then (if x9 < (x1.length : Int) then (if 0 ≤ (IntKind.u64.wrap (rd x1 x9)) then (spec_l5Split.l0 k x1 x6 (wrap64 (x7 + (shl .i64 1 (IntKind.u64.wrap (rd x1 x9))))) x8 (wrap64 (x9 + 1))) else (none)) else (none)) else (if x9 < (x1.length : Int) then (if 0 ≤ (IntKind.u64.wrap (rd x1 x9)) then (spec_l5Split.l0 k x1 x6 x7 (wrap64 (x8 + (shl .i64 1 (IntKind.u64.wrap (rd x1 x9))))) (wrap64 (x9 + 1))) else (none)) else (none))) else (none)) else (none)) else (some (x7, x8))
def spec_l5Split.f (k : Nat) (a0_0 : Int) (a0_1 : ByteArray) (l1 : List Int) : Option (Int × Int) := if 0 < (l1.length : Int) then (if 1 < (l1.length : Int) then (if 2 < (l1.length : Int) then (if 3 < (l1.length : Int) then ((spec_l4Circuit.f k a0_0 a0_1 (rd l1 0) (rd l1 1) (rd l1 2) (rd l1 3)).bind fun t106 => (spec_l5Split.l0 k l1 t106 0 0 0)) else (none)) else (none)) else (none)) else (none)
theorem spec_l5Split.mono_l : ∀ k, (∀ y0 y1 y2 y3 y4, LeO (spec_l5Split.l0 k y0 y1 y2 y3 y4) (spec_l5Split.l0 (k + 1) y0 y1 y2 y3 y4))
 | 0 => fun _ _ _ _ _ r h => by simp [spec_l5Split.l0] at h
 | k + 1 => by
  have ih0 := spec_l5Split.mono_l k
  (intros; unfold spec_l5Split.l0; repeat' (with_reducible first | exact ih0 _ _ _ _ _ | exact spec_l4Circuit.mono _ _ _ _ _ _ _ | exact LeO.refl _ | exact LeO.none _ | refine LeO.ite ?_ ?_ | refine LeO.bind ?_ (fun _ => ?_)))
def spec_l5Split.T1 : Bool × List (List Nat × List Nat) := (true, [([], []), ([], []), ([1], [1]), ([2], [2]), ([], []), ([4], [4]), ([5], [5]), ([], []), ([7], [7]), ([8], [8]), ([], []), ([10], [10]), ([11], [11]), ([0, 3, 6, 9, 12], [0, 3, 6, 9, 12]), ([13, 13, 0, 1, 2, 3, 4, 5, 6, 7, 8, 9, 10, 11, 12, 13], [13])])
def spec_l5Split.B1 : List Nat := [0, 0, 2, 6, 0, 16, 48, 0, 128, 384, 0, 1024, 3072, 8191, 16383]
theorem spec_l5Split.tab1 : rtab .any (opsOf Tryz.f100 1) = spec_l5Split.T1 := by kernel_rfl
theorem spec_l5Split.bits1 : waitsOk spec_l5Split.T1.2 spec_l5Split.B1 = true := by kernel_rfl
set_option maxHeartbeats 8000000 in
set_option maxRecDepth 100000 in
theorem spec_l5Split.calls (k : Nat) (a0_0 : Int) (a0_1 : ByteArray) (A1 : Option Addr) (c1 : Nat) (l1 : List Int) (r1 : Int) (r2 : Int) (w : World) (hr1 : Kd.C (Kd.int .i64) w A1 l1.length l1) (hc1 : l1.length ≤ c1) (h : spec_l5Split.f k a0_0 a0_1 l1 = some (r1, r2)) :
  Calls Tryz.prog 100 #[.agg #[.int .i64 a0_0, .string a0_1], .slice A1 l1.length c1] w fun e w' => e = .returned (.tuple #[.int .i64 r1, .int .i64 r2]) ∧ Below w.heap.size w w' := by
 have hu45 := Tryz.underlying45
 have HR1 := aM_ hr1
 have HC1 := aM_ hc1
 clear hr1 hc1
 have HB := aM_ (Below.refl w.heap.size w)
 have H : (if 0 < (l1.length : Int) then (if 1 < (l1.length : Int) then (if 2 < (l1.length : Int) then (if 3 < (l1.length : Int) then ((spec_l4Circuit.f k a0_0 a0_1 (rd l1 0) (rd l1 1) (rd l1 2) (rd l1 3)).bind fun t106 => (spec_l5Split.l0 k l1 t106 0 0 0)) else (none)) else (none)) else (none)) else (none)) = some (r1, r2) := h
 clear h
 obtain ⟨c3, H⟩ := ifp_ H
 have c3b0 := decide_eq_true c3
 have c3b1 : decide (0 < l1.length) = true := decide_eq_true (by omega)
 clear c3
 obtain ⟨c4, H⟩ := ifp_ H
 have c4b0 := decide_eq_true c4
 have c4b1 : decide (1 < l1.length) = true := decide_eq_true (by omega)
 clear c4
 obtain ⟨c5, H⟩ := ifp_ H
 have c5b0 := decide_eq_true c5
 have c5b1 : decide (2 < l1.length) = true := decide_eq_true (by omega)
 clear c5
 obtain ⟨c6, H⟩ := ifp_ H
 have c6b0 := decide_eq_true c6
 have c6b1 : decide (3 < l1.length) = true := decide_eq_true (by omega)
 clear c6
 replace H := oB_ H
 obtain ⟨t106, A70, H⟩ := H
 replace H : (spec_l5Split.l0 k l1 t106 0 0 0) = some (r1, r2) := H
 have A7 := aM_ A70
 clear A70
 have H' := aM_ H
 clear H
 go_enter Tryz.func100, Tryz.ntmps100
 try go_wp2_with (first | ((with_reducible refine gate_dst (N := 2) rfl ?_); refine boxE_ (N := 2) #[.int .i64 a0_0, .string a0_1] 45 ?_; intro gb101 hg w8 hbox hb; have BK101 := aM_ (hbox); have GW101 := aM_ ((bs_ HB hg)); have GE101 := aM_ ((bs_ HB hg)); replace HB := aM_ (below_step (bB_ HB) hb); clear hb hbox hg))
 replace BK101 := aM_ (blk_drew BK101.out)
 replace HB := aM_ (bD_ HB.out)
 have p102 : 0 ≤ (0 : Int) := (by omega)
 have q102 : 0 < (l1.length : Int) := ode_
 obtain ⟨ad102, e102, hx102_0⟩ := Kd.at_int HR1.out 0 p102 q102
 have hw102_0 := hx102_0
 (try rw [show ((0 : Int)).toNat = 0 from rfl] at hw102_0)
 (try rw [show 0 * 1 = 0 from rfl] at hw102_0)
 (try rw [Addr.add_zero'] at hw102_0)
 cases e102
 have qi102 : (0 < l1.length) = True := eq_true (by omega)
 (try rw [show ((0 : Int)).toNat = 0 from rfl] at hx102_0)
 (try rw [Addr.add_zero'] at hx102_0)
 replace hx102_0 := hbc_ HB hx102_0
 replace p102 := eq_true p102
 replace q102 := eq_true q102
 have p103 : 0 ≤ (1 : Int) := (by omega)
 have q103 : 1 < (l1.length : Int) := ode_
 obtain ⟨ad103, e103, hx103_0⟩ := Kd.at_int HR1.out 1 p103 q103
 have hw103_0 := hx103_0
 (try rw [show ((1 : Int)).toNat = 1 from rfl] at hw103_0)
 (try rw [show 1 * 1 = 1 from rfl] at hw103_0)
 (try simp only [Nat.reduceMul, Nat.reduceEqDiff, Go.Addr.add, ↓reduceIte] at hw103_0)
 obtain rfl : ad102 = ad103 := (by injection e103)
 (try simp only [show (1 : Int).toNat = 1 from rfl, Nat.reduceMul, Nat.reduceEqDiff, Go.Addr.add, ↓reduceIte] at hx103_0)
 have qi103 : (1 < l1.length) = True := eq_true (by omega)
 (try rw [show ((1 : Int)).toNat = 1 from rfl] at hx103_0)
 replace hx103_0 := hbc_ HB hx103_0
 replace p103 := eq_true p103
 replace q103 := eq_true q103
 have p104 : 0 ≤ (2 : Int) := (by omega)
 have q104 : 2 < (l1.length : Int) := ode_
 obtain ⟨ad104, e104, hx104_0⟩ := Kd.at_int HR1.out 2 p104 q104
 have hw104_0 := hx104_0
 (try rw [show ((2 : Int)).toNat = 2 from rfl] at hw104_0)
 (try rw [show 2 * 1 = 2 from rfl] at hw104_0)
 (try simp only [Nat.reduceMul, Nat.reduceEqDiff, Go.Addr.add, ↓reduceIte] at hw104_0)
 obtain rfl : ad102 = ad104 := (by injection e104)
 (try simp only [show (2 : Int).toNat = 2 from rfl, Nat.reduceMul, Nat.reduceEqDiff, Go.Addr.add, ↓reduceIte] at hx104_0)
 have qi104 : (2 < l1.length) = True := eq_true (by omega)
 (try rw [show ((2 : Int)).toNat = 2 from rfl] at hx104_0)
 replace hx104_0 := hbc_ HB hx104_0
 replace p104 := eq_true p104
 replace q104 := eq_true q104
 have p105 : 0 ≤ (3 : Int) := (by omega)
 have q105 : 3 < (l1.length : Int) := ode_
 obtain ⟨ad105, e105, hx105_0⟩ := Kd.at_int HR1.out 3 p105 q105
 have hw105_0 := hx105_0
 (try rw [show ((3 : Int)).toNat = 3 from rfl] at hw105_0)
 (try rw [show 3 * 1 = 3 from rfl] at hw105_0)
 (try simp only [Nat.reduceMul, Nat.reduceEqDiff, Go.Addr.add, ↓reduceIte] at hw105_0)
 obtain rfl : ad102 = ad105 := (by injection e105)
 (try simp only [show (3 : Int).toNat = 3 from rfl, Nat.reduceMul, Nat.reduceEqDiff, Go.Addr.add, ↓reduceIte] at hx105_0)
 have qi105 : (3 < l1.length) = True := eq_true (by omega)
 (try rw [show ((3 : Int)).toNat = 3 from rfl] at hx105_0)
 replace hx105_0 := hbc_ HB hx105_0
 replace p105 := eq_true p105
 replace q105 := eq_true q105
 refine start_ (n := 15) (S := fun w' => w'.cell? ⟨gb101, 0, none⟩ = some (.int .i64 a0_0) ∧ w'.cell? ⟨gb101, 1, none⟩ = some (.string a0_1) ∧ w'.cell? ad102 = some (.int .i64 (rd l1 0)) ∧ w'.cell? ⟨ad102.block, ad102.off + 1, none⟩ = some (.int .i64 (rd l1 1)) ∧ w'.cell? ⟨ad102.block, ad102.off + 2, none⟩ = some (.int .i64 (rd l1 2)) ∧ w'.cell? ⟨ad102.block, ad102.off + 3, none⟩ = some (.int .i64 (rd l1 3))) (ds := []) (bm 15 0) (by kernel_rfl) rfl rfl ⟨bc_ BK101 0, bc_ BK101 1, (hbc_ HB hw102_0), (hbc_ HB hw103_0), (hbc_ HB hw104_0), (hbc_ HB hw105_0)⟩ (fun hHeld => ?_); refine with_tabW spec_l5Split.tab1 spec_l5Split.bits1 (fun HT_ HW_ => ?_)
 generalize w8.drew = w9 at BK101 HB hx102_0 hx103_0 hx104_0 hx105_0 hHeld ⊢
 refine plan_ ((0, 1, 11, 2) :: (0, 2, 12, 6) :: (0, 4, 14, 22) :: (0, 5, 15, 54) :: (0, 7, 17, 182) :: (0, 8, 18, 438) :: (0, 10, 20, 1462) :: (0, 11, 21, 3510) :: (2, 0, 10, 3511) :: (2, 3, 13, 3519) :: (2, 6, 16, 3583) :: (2, 9, 19, 4095) :: (2, 12, 22, 8191) :: []) ?_
 iterate 13 (first | refine pV_ HT_ ?_ | refine pT_ HT_ HW_ hHeld ?_)
 refine planEnd_ ?_
 refine one_ (i := 13) (N := some 23) (bm 15 16383) rfl rfl (one_of HT_.out (by kernel_rfl)) (by decide) (fun K hK => ?_)
 refine goesO_ Tryz.func87 #[.agg #[.int .i64 a0_0, .string a0_1], .int .i64 (rd l1 0), .int .i64 (rd l1 1), .int .i64 (rd l1 2), .int .i64 (rd l1 3)] ?_
 with_reducible refine (spec_l4Circuit.calls k a0_0 a0_1 (rd l1 0) (rd l1 1) (rd l1 2) (rd l1 3) t106 _ A7.out).mono ?_
 rintro e w10 ⟨rfl, hb⟩
 refine ⟨_, rfl, ?_⟩
 replace BK101 := aM_ (bkb_ BK101 hb)
 replace HB := aM_ (below_step (bB_ HB) hb)
 (try clear hb)
 refine hK.out _ _ ⟨bc_ BK101 0, bc_ BK101 1, (hbc_ HB hw102_0), (hbc_ HB hw103_0), (hbc_ HB hw104_0), (hbc_ HB hw105_0)⟩ (fun hHeld => ?_)
 clear hK K
 refine nrm_ ?_
 refine plan_ ((0, 14, 6, 32767) :: []) ?_
 iterate 1 (first | refine pV_ HT_ ?_)
 refine planEnd_ ?_
 refine done_ (done_of HT_.out (by kernel_rfl)) ?_
 try go_wp2
 go_loopg [7, 8, 9] k (fun kq v7 v8 v9 w' => ∃ (x7_1 : Int) (x8_1 : Int) (x9_1 : Int), v7 = .int .i64 x7_1 ∧ v8 = .int .i64 x8_1 ∧ v9 = .int .i64 x9_1 ∧ Aside0 (spec_l5Split.l0 kq l1 t106 x7_1 x8_1 x9_1 = some (r1, r2)) ∧ Aside0 (kq ≤ k) ∧ Aside0 (w'.heap[gb101]? = some (.cells #[.int .i64 a0_0, .string a0_1] 45 (0, 0))) ∧ Aside0 (Below w.heap.size w w'))
 case atStart => exact ⟨(0), (0), (0), veq_, veq_, veq_, H', ⟨Nat.le_refl _⟩, ⟨bk_ BK101⟩, ⟨bB_ HB⟩⟩
 case round =>
  clear H'
  try clear c1
  try clear c3
  try clear c3b0
  try clear c3b1
  try clear c4
  try clear c4b0
  try clear c4b1
  try clear c5
  try clear c5b0
  try clear c5b1
  try clear c6
  try clear c6b0
  try clear c6b1
  try clear hx102_0
  try clear hx103_0
  try clear hx104_0
  try clear hx105_0
  try clear p102
  try clear p103
  try clear p104
  try clear p105
  try clear q102
  try clear q103
  try clear q104
  try clear q105
  obtain ⟨x7_1, x8_1, x9_1, rfl, rfl, rfl, HA, HK1, BK101, HB⟩ := hrel
  cases gk with
  | zero => exact absurd HA.out (by simp [spec_l5Split.l0])
  | succ k1 =>
   have H := HA.out
   clear HA
   simp only [spec_l5Split.l0] at H
   rcases ifd_ H with ⟨c11b0, H⟩ | ⟨c11b0, H⟩
   ·obtain ⟨c12b0, H⟩ := ifn_ H
    obtain ⟨c13b0, H⟩ := ifn_ H
    rcases ifc_ H with ⟨c15, H⟩ | ⟨c15, H⟩
    ·have c15b0 : ((bt t106 x9_1) == 43) = true := beq_iff_eq.mpr c15
     have c15b1 : ((bt t106 x9_1) != 43) = false := bne_eq_false_iff_eq.mpr c15
     clear c15
     obtain ⟨c16b0, H⟩ := ifn_ H
     obtain ⟨ji17, hji17⟩ : ∃ j_ : Int, (IntKind.u64.wrap (rd l1 x9_1)) = j_ := ⟨_, rfl⟩
     replace H : (if 0 ≤ (ji17) then (spec_l5Split.l0 k1 l1 t106 (wrap64 (x7_1 + (shl .i64 1 (ji17)))) x8_1 (wrap64 (x9_1 + 1))) else (none)) = some (r1, r2) := by first | (rw [hji17] at H; exact H) | (simp only [hji17] at H ⊢; exact H)
     obtain ⟨c18, H⟩ := ifp_ H
     have c18b0 := eq_true c18
     have c18b1 := decide_eq_true c18
     clear c18
     obtain ⟨ji19, hji19⟩ : ∃ j_ : Int, (shl .i64 1 (ji17)) = j_ := ⟨_, rfl⟩
     replace H : (spec_l5Split.l0 k1 l1 t106 (wrap64 (x7_1 + (ji19))) x8_1 (wrap64 (x9_1 + 1))) = some (r1, r2) := by first | (rw [hji19] at H; exact H) | (simp only [hji19] at H ⊢; exact H)
     have hji19_ : (IntKind.i64.wrap (1 * 2 ^ min (ji17).toNat 64)) = ji19 := hji19
     have hji19z : (ji17) ≤ 64 → (IntKind.i64.wrap (1 * 2 ^ (ji17).toNat)) = ji19 := shl_small hji19
     have hji19u : (IntKind.i64.wrap (2 ^ min (ji17).toNat 64)) = ji19 := by have h_ := hji19_; rw [Int.one_mul] at h_; exact h_
     have hji19v : (ji17) ≤ 64 → (IntKind.i64.wrap (2 ^ (ji17).toNat)) = ji19 := fun hle_ => by have h_ := hji19z hle_; rw [Int.one_mul] at h_; exact h_
     have hji19y : (wrap64 (1 * 2 ^ min (ji17).toNat 64)) = ji19 := (i64_w _).symm.trans hji19_
     have hji19x : (ji17) ≤ 64 → (wrap64 (1 * 2 ^ (ji17).toNat)) = ji19 := fun h_ => (i64_w _).symm.trans (hji19z h_)
     have H' := aM_ H
     clear H
     have p14 : 0 ≤ (x9_1 : Int) := ode_
     have q14 : x9_1 < (t106.size : Int) := ode_
     have hx14 := bt_at t106 x9_1
     replace p14 := eq_true p14
     replace q14 := eq_true q14
     have p107 : 0 ≤ (x9_1 : Int) := ode_
     have q107 : x9_1 < (l1.length : Int) := ode_
     obtain ⟨ad107, e107, hx107_0⟩ := Kd.at_int HR1.out x9_1 p107 q107
     obtain rfl : ad102 = ad107 := (by injection e107)
     replace hx107_0 := hbc_ HB hx107_0
     replace p107 := eq_true p107
     replace q107 := eq_true q107
     go_wp2
     go_roundg k1
     case measure => have := HK1.out; omega
     case rel => exact ⟨(wrap64 (x7_1 + (ji19))), (x8_1), (wrap64 (x9_1 + 1)), (by first | rfl | (simp; done) | (simp only [← hji19] <;> (first | rfl | simp)) | (simp [*]; done)), veq_, veq_, H', ⟨by have := HK1.out; omega⟩, ⟨bk_ BK101⟩, ⟨bB_ HB⟩⟩
    ·have c15b0 : ((bt t106 x9_1) == 43) = false := beq_eq_false_iff_ne.mpr c15
     have c15b1 : ((bt t106 x9_1) != 43) = true := bne_iff_ne.mpr c15
     obtain ⟨c20b0, H⟩ := ifn_ H
     obtain ⟨ji21, hji21⟩ : ∃ j_ : Int, (IntKind.u64.wrap (rd l1 x9_1)) = j_ := ⟨_, rfl⟩
     replace H : (if 0 ≤ (ji21) then (spec_l5Split.l0 k1 l1 t106 x7_1 (wrap64 (x8_1 + (shl .i64 1 (ji21)))) (wrap64 (x9_1 + 1))) else (none)) = some (r1, r2) := by first | (rw [hji21] at H; exact H) | (simp only [hji21] at H ⊢; exact H)
     obtain ⟨c22, H⟩ := ifp_ H
     have c22b0 := eq_true c22
     have c22b1 := decide_eq_true c22
     clear c22
     obtain ⟨ji23, hji23⟩ : ∃ j_ : Int, (shl .i64 1 (ji21)) = j_ := ⟨_, rfl⟩
     replace H : (spec_l5Split.l0 k1 l1 t106 x7_1 (wrap64 (x8_1 + (ji23))) (wrap64 (x9_1 + 1))) = some (r1, r2) := by first | (rw [hji23] at H; exact H) | (simp only [hji23] at H ⊢; exact H)
     have hji23_ : (IntKind.i64.wrap (1 * 2 ^ min (ji21).toNat 64)) = ji23 := hji23
     have hji23z : (ji21) ≤ 64 → (IntKind.i64.wrap (1 * 2 ^ (ji21).toNat)) = ji23 := shl_small hji23
     have hji23u : (IntKind.i64.wrap (2 ^ min (ji21).toNat 64)) = ji23 := by have h_ := hji23_; rw [Int.one_mul] at h_; exact h_
     have hji23v : (ji21) ≤ 64 → (IntKind.i64.wrap (2 ^ (ji21).toNat)) = ji23 := fun hle_ => by have h_ := hji23z hle_; rw [Int.one_mul] at h_; exact h_
     have hji23y : (wrap64 (1 * 2 ^ min (ji21).toNat 64)) = ji23 := (i64_w _).symm.trans hji23_
     have hji23x : (ji21) ≤ 64 → (wrap64 (1 * 2 ^ (ji21).toNat)) = ji23 := fun h_ => (i64_w _).symm.trans (hji23z h_)
     have H' := aM_ H
     clear H
     have p14 : 0 ≤ (x9_1 : Int) := ode_
     have q14 : x9_1 < (t106.size : Int) := ode_
     have hx14 := bt_at t106 x9_1
     replace p14 := eq_true p14
     replace q14 := eq_true q14
     have p108 : 0 ≤ (x9_1 : Int) := ode_
     have q108 : x9_1 < (l1.length : Int) := ode_
     obtain ⟨ad108, e108, hx108_0⟩ := Kd.at_int HR1.out x9_1 p108 q108
     obtain rfl : ad102 = ad108 := (by injection e108)
     replace hx108_0 := hbc_ HB hx108_0
     replace p108 := eq_true p108
     replace q108 := eq_true q108
     go_wp2
     go_roundg k1
     case measure => have := HK1.out; omega
     case rel => exact ⟨(x7_1), (wrap64 (x8_1 + (ji23))), (wrap64 (x9_1 + 1)), veq_, (by first | rfl | (simp; done) | (simp only [← hji23] <;> (first | rfl | simp)) | (simp [*]; done)), veq_, H', ⟨by have := HK1.out; omega⟩, ⟨bk_ BK101⟩, ⟨bB_ HB⟩⟩
   ·simp only [Option.some.injEq, Prod.mk.injEq] at H
    obtain ⟨rfl, rfl⟩ := H
    go_wp2
    go_ret2
    exact ⟨verr_, bB_ HB⟩
end Go.Proofs.YteaagaekdkolnaaGreatDoor.P

namespace Go.Proofs.YteaagaekdkolnaaGreatDoor.P
open Go.RowKit Go.Proofs.YteaagaekdkolnaaGreatDoorW.PrintWords Go.Proofs.YteaagaekdkolnaaGreatDoorW.PrintLast Go.Proofs.YteaagaekdkolnaaGreatDoorW.PrintMore
attribute [local go_sem] max2_int min2_int max_two min_two max_three min_three max_four min_four   -- for this text's walks alone
set_option linter.unusedVariables false
set_option linter.unusedSimpArgs false
/-! ### spec_l5Only: function 101 -/
def spec_l5Only.l0 : Nat → Int → Int → Option (Int)
 | 0, _, _ => none
 | k + 1, x0, x3 => if x3 < 7 then (if 0 ≤ (IntKind.u64.wrap (x3)) then (if x0 = (shl .i64 1 (IntKind.u64.wrap (x3))) then (some x3) else (spec_l5Only.l0 k x0 (wrap64 (x3 + 1)))) else (none)) else (some (-1))
def spec_l5Only.f (k : Nat) (a0 : Int) : Option (Int) := spec_l5Only.l0 k a0 0
theorem spec_l5Only.mono_l : ∀ k, (∀ y0 y1, LeO (spec_l5Only.l0 k y0 y1) (spec_l5Only.l0 (k + 1) y0 y1))
 | 0 => fun _ _ r h => by simp [spec_l5Only.l0] at h
 | k + 1 => by
  have ih0 := spec_l5Only.mono_l k
  (intros; unfold spec_l5Only.l0; repeat' (with_reducible first | exact ih0 _ _ | exact LeO.refl _ | exact LeO.none _ | refine LeO.ite ?_ ?_ | refine LeO.bind ?_ (fun _ => ?_)))
theorem spec_l5Only.mono : ∀ a0 k, LeO (spec_l5Only.f k a0) (spec_l5Only.f (k + 1) a0) := by
 intro a0 k
 have ih0 := spec_l5Only.mono_l k
 unfold spec_l5Only.f
 repeat' first
   | (with_reducible exact ih0 _ _)
   | (with_reducible exact LeO.refl _)
   | (with_reducible exact LeO.none _)
   | (with_reducible refine LeO.ite ?_ ?_)
   | (with_reducible refine LeO.bind ?_ (fun _ => ?_))
set_option maxHeartbeats 8000000 in
set_option maxRecDepth 100000 in
theorem spec_l5Only.calls (k : Nat) (a0 : Int) (r : Int) (w : World) (h : spec_l5Only.f k a0 = some r) :
  Calls Tryz.prog 101 #[.int .i64 a0] w fun e w' => e = .returned (.int .i64 r) ∧ Drawn0 w w' := by
 have H : (spec_l5Only.l0 k a0 0) = some r := h
 clear h
 have H' := aM_ H
 clear H
 go_enter Tryz.func101, Tryz.ntmps101
 go_wp2
 go_loopg [3] k (fun kq v3 w' => ∃ (x3_1 : Int), v3 = .int .i64 x3_1 ∧ Aside0 (spec_l5Only.l0 kq a0 x3_1 = some r) ∧ Aside0 (kq ≤ k) ∧ Drawn0 w w')
 case atStart => exact ⟨(0), veq_, H', ⟨Nat.le_refl _⟩, by repeat (first | exact Drawn0.refl _ | apply Drawn0.step)⟩
 case round =>
  clear H'
  obtain ⟨x3_1, rfl, HA, HK1, ⟨m1, rfl⟩⟩ := hrel
  cases gk with
  | zero => exact absurd HA.out (by simp [spec_l5Only.l0])
  | succ k1 =>
   have H := HA.out
   clear HA
   simp only [spec_l5Only.l0] at H
   rcases ifd_ H with ⟨c2b0, H⟩ | ⟨c2b0, H⟩
   ·obtain ⟨ji3, hji3⟩ : ∃ j_ : Int, (IntKind.u64.wrap (x3_1)) = j_ := ⟨_, rfl⟩
    replace H : (if 0 ≤ (ji3) then (if a0 = (shl .i64 1 (ji3)) then (some x3_1) else (spec_l5Only.l0 k1 a0 (wrap64 (x3_1 + 1)))) else (none)) = some r := by first | (rw [hji3] at H; exact H) | (simp only [hji3] at H ⊢; exact H)
    obtain ⟨c4, H⟩ := ifp_ H
    have c4b0 := eq_true c4
    have c4b1 := decide_eq_true c4
    clear c4
    obtain ⟨ji5, hji5⟩ : ∃ j_ : Int, (shl .i64 1 (ji3)) = j_ := ⟨_, rfl⟩
    replace H : (if a0 = (ji5) then (some x3_1) else (spec_l5Only.l0 k1 a0 (wrap64 (x3_1 + 1)))) = some r := by first | (rw [hji5] at H; exact H) | (simp only [hji5] at H ⊢; exact H)
    have hji5_ : (IntKind.i64.wrap (1 * 2 ^ min (ji3).toNat 64)) = ji5 := hji5
    have hji5z : (ji3) ≤ 64 → (IntKind.i64.wrap (1 * 2 ^ (ji3).toNat)) = ji5 := shl_small hji5
    have hji5u : (IntKind.i64.wrap (2 ^ min (ji3).toNat 64)) = ji5 := by have h_ := hji5_; rw [Int.one_mul] at h_; exact h_
    have hji5v : (ji3) ≤ 64 → (IntKind.i64.wrap (2 ^ (ji3).toNat)) = ji5 := fun hle_ => by have h_ := hji5z hle_; rw [Int.one_mul] at h_; exact h_
    have hji5y : (wrap64 (1 * 2 ^ min (ji3).toNat 64)) = ji5 := (i64_w _).symm.trans hji5_
    have hji5x : (ji3) ≤ 64 → (wrap64 (1 * 2 ^ (ji3).toNat)) = ji5 := fun h_ => (i64_w _).symm.trans (hji5z h_)
    rcases ifc_ H with ⟨c6, H⟩ | ⟨c6, H⟩
    ·have c6b0 : (a0 == (ji5)) = true := beq_iff_eq.mpr c6
     have c6b1 : (a0 != (ji5)) = false := bne_eq_false_iff_eq.mpr c6
     clear c6
     obtain rfl := Option.some.inj H
     go_wp2
     go_ret
     exact ⟨by first | rfl | (simp; done) | (simp only [← hji3, ← hji5] <;> (first | rfl | simp)) | (simp [*]; done), by repeat (first | exact Drawn0.refl _ | apply Drawn0.step)⟩
    ·have c6b0 : (a0 == (ji5)) = false := beq_eq_false_iff_ne.mpr c6
     have c6b1 : (a0 != (ji5)) = true := bne_iff_ne.mpr c6
     have H' := aM_ H
     clear H
     go_wp2
     go_roundg k1
     case measure => have := HK1.out; omega
     case rel => exact ⟨(wrap64 (x3_1 + 1)), veq_, H', ⟨by have := HK1.out; omega⟩, by repeat (first | exact Drawn0.refl _ | apply Drawn0.step)⟩
   ·obtain rfl := Option.some.inj H
    go_wp2
    go_ret
    exact ⟨veq_, by repeat (first | exact Drawn0.refl _ | apply Drawn0.step)⟩
end Go.Proofs.YteaagaekdkolnaaGreatDoor.P

