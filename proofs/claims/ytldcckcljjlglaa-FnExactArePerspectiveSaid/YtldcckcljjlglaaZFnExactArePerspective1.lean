/- A part of the proof of FnExactArePerspective: printed contracts and plain laws, joined by a program of this session. -/
import Derived.Test.YtldcckcljjlglaaZFnExactArePerspective0
import Derived.Test.YtldcckcljjlglaaRows
import Derived.Test.YtldcckcljjlglaaProg
import Derived.Below
import Derived.Deep.Draws
import Derived.Deep.AppendLies
import Derived.Maps.AppendAt
import Derived.OwnWalk
import Derived.Laws.BytesArg
import Derived.Laws.MakeOwn
import Derived.Laws.OwnMore
import Derived.Deep.OwnRows
import Derived.Tactics
import Derived.Lib.ConvBytes
import Derived.Laws.Slices
import Derived.WalkKit
import Derived.KernelRfl
import Derived.RowKit3
import Derived.Deep.LoopGhost
import Derived.Deep.QuietTactic
import Derived.BigQuiet
import Derived.WideLaws
import Derived.Deep.DeepCutAuto
import Derived.Deep.CutBlock
import Derived.Deep.RegionHeld3
import Derived.Laws.Rows
import Derived.Lib.AppendStr
import Derived.ArgAppend
import Derived.Laws.IdiomCopy
import Derived.OrdersHeld
import Derived.Laws.BitsLemmas
import Derived.RowKit
import Derived.Shelf.Abstract
import Derived.Test.YtldcckcljjlglaaWWords
import Derived.Test.YtldcckcljjlglaaWLast
import Derived.Test.YtldcckcljjlglaaWTab
import Derived.Test.YtldcckcljjlglaaWFour
import Derived.Test.YtldcckcljjlglaaWQPut
import Derived.Test.YtldcckcljjlglaaWApart
import Derived.Test.YtldcckcljjlglaaWArr
import Derived.Test.YtldcckcljjlglaaWZeros
import Derived.Test.YtldcckcljjlglaaWFoot
import Derived.Test.YtldcckcljjlglaaWKept
import Derived.Test.YtldcckcljjlglaaWShare
import Derived.Test.YtldcckcljjlglaaWN
import Derived.Test.YtldcckcljjlglaaWEqStruct
import Derived.Test.YtldcckcljjlglaaWRepsOne
import Derived.Test.YtldcckcljjlglaaWNEv
import Derived.Test.YtldcckcljjlglaaWMore
import Derived.Deep.Slices
import Derived.ChangeOld
import Derived.Carry
import Derived.ProofKit
import Derived.OpenShut
import Derived.ShutString
import Derived.SizedLaws
namespace Go.Proofs.Ytldcckcljjlglaa.P
open Go.RowKit Go.Proofs.YtldcckcljjlglaaW.PrintWords Go.Proofs.YtldcckcljjlglaaW.PrintLast Go.Proofs.YtldcckcljjlglaaW.PrintMore
set_option linter.unusedSimpArgs false
section
variable {P : Program} {md : Region.Mode} {ops : Array Oper} {Q : Exit → Act → World → Prop} {S : World → Prop}
/-- What an operation does: it leaves v, and no block that there is changes. -/
def Does (P : Program) (ops : Array Oper) (S : World → Prop) (o : Oper) (a : Act) (v : Value) : Prop :=
  (Region.wanted o (yielded ops a.tmps) = false ∧ v = undef) ∨
  (Region.wanted o (yielded ops a.tmps) = true ∧ ∀ w, S w → ((execOp a.eval o).run P w = .ok (.value v) w) ∨
    (∃ f args, (execOp a.eval o).run P w = .ok (.enter f args) w ∧ Calls P f args w fun e w1 => e = .returned v ∧ Below w.heap.size w w1))
/-- It makes a block. -/
def News (P : Program) (ops : Array Oper) (S : World → Prop) (o : Oper) (a : Act) (cs : Array Value) (t : TypeId) : Prop :=
  Region.wanted o (yielded ops a.tmps) = true ∧ ∀ w, S w → (execOp a.eval o).run P w = .ok (.value (.pointer (some ⟨w.heap.size, 0, none⟩))) (w.alloc (.cells cs t (0, 0)))
/-- What a store into one block changes. -/
structure Mut (g : Nat) (w w1 : World) : Prop where
  os : w1.os = w.os
  tape : w1.tape = w.tape
  output : w1.output = w.output
  size : w1.heap.size = w.heap.size
  block : ∀ k, k ≠ g → w1.heap[k]? = w.heap[k]?
theorem Mut.trans {g : Nat} {w w1 w2 : World} (h : Mut g w w1) (h' : Mut g w1 w2) : Mut g w w2 := ⟨h'.os.trans h.os, h'.tape.trans h.tape, h'.output.trans h.output, h'.size.trans h.size, fun k hk => (h'.block k hk).trans (h.block k hk)⟩
theorem mut1_ {g : Nat} {w : World} {cs : Array Value} {t : TypeId} (h : w.heap[g]? = some (.cells cs t (0, 0))) (j : Nat) (u : Value) : Mut g w (w.setCell ⟨g, j, none⟩ u) ∧ (w.setCell ⟨g, j, none⟩ u).heap[g]? = some (.cells (cs.setIfInBounds j u) t (0, 0)) :=
  ⟨⟨rfl, rfl, rfl, by simp [World.setCell], fun k hk => Below.heap_setCell w ⟨g, j, none⟩ u k hk⟩, by simp [World.setCell, Array.getElem?_modify, h]⟩
/-- A whole struct of two or three cells is stored. -/
theorem mut2_ {g : Nat} {w : World} {a b : Value} {t : TypeId} (h : w.heap[g]? = some (.cells #[a, b] t (0, 0))) (x y : Value) : Mut g w ((w.setCell ⟨g, 0, none⟩ x).setCell ⟨g, 1, none⟩ y) ∧ ((w.setCell ⟨g, 0, none⟩ x).setCell ⟨g, 1, none⟩ y).heap[g]? = some (.cells #[x, y] t (0, 0)) := by
  obtain ⟨m1, h1⟩ := mut1_ h 0 x
  obtain ⟨m2, h2⟩ := mut1_ h1 1 y
  exact ⟨m1.trans m2, h2⟩
theorem mut3_ {g : Nat} {w : World} {a b c : Value} {t : TypeId} (h : w.heap[g]? = some (.cells #[a, b, c] t (0, 0))) (x y z : Value) : Mut g w (((w.setCell ⟨g, 0, none⟩ x).setCell ⟨g, 1, none⟩ y).setCell ⟨g, 2, none⟩ z) ∧ (((w.setCell ⟨g, 0, none⟩ x).setCell ⟨g, 1, none⟩ y).setCell ⟨g, 2, none⟩ z).heap[g]? = some (.cells #[x, y, z] t (0, 0)) := by
  obtain ⟨m1, h1⟩ := mut1_ h 0 x
  obtain ⟨m2, h2⟩ := mut1_ h1 1 y
  obtain ⟨m3, h3⟩ := mut1_ h2 2 z
  exact ⟨(m1.trans m2).trans m3, h3⟩
theorem Mut.below {g n : Nat} {w w1 : World} (h : Mut g w w1) (hn : n ≤ g) : Below n w w1 := ⟨h.os, h.tape, h.output, Nat.le_of_eq h.size.symm, fun k hk => h.block k (by omega)⟩
/-- It stores into a block that this region has made. -/
def Stores (P : Program) (ops : Array Oper) (S : World → Prop) (n0 : Nat) (o : Oper) (a : Act) (g : Nat) (cs : Array Value) (t : TypeId) (cs' : Array Value) : Prop :=
  Region.wanted o (yielded ops a.tmps) = true ∧ ∀ w, S w → w.heap[g]? = some (.cells cs t (0, 0)) → n0 ≤ g → ∃ w1, (execOp a.eval o).run P w = .ok .skip w1 ∧ Mut g w w1 ∧ w1.heap[g]? = some (.cells cs' t (0, 0))
def isNew (o : Oper) : Bool := match o.op with
  | .alloc _ => true
  | _ => false
/-- Each of the first m writes a slot of its own or stores into a block; one that looks at another's slot waits for it, and that one makes no block, but for the block that is stored into; the others wait for all of the first m. tb: which makes a block, which stores into it. -/
def allB (md : Region.Mode) (ops : Array Oper) (m : Nat) (tb : List (Nat × Nat)) : Bool :=
  Region.noSelect ops && decide (m ≤ ops.size) && (tb.all fun p => decide (p.1 < m) && decide (p.2 < m) && (match ops[p.2]? with
      | none => false
      | some o => o.dst.isNone && o.after.any fun e => Region.binds md e && e.on == p.1) && tb.all fun q => !(q.2 == p.2) || q.1 == p.1) && (List.range ops.size).all fun i => match ops[i]? with
    | none => false
    | some oi => if i < m then oi.after.all (fun e => !Region.binds md e || decide (e.on < i)) && (List.range m).all fun j => match ops[j]? with
        | none => false
        | some oj => match oj.dst with
          | none => true
          | some t => (j == i || oi.dst != some t) && (!(oi.looksAt ops).contains t || ((!isNew oj || tb.contains (j, i)) && oi.after.any fun e => Region.binds md e && e.on == j))
      else (List.range m).all fun j => oi.after.any fun e => Region.binds md e && e.on == j
section
variable {m : Nat} {tb : List (Nat × Nat)}
theorem allB_le (h : allB md ops m tb = true) : m ≤ ops.size := by
  unfold allB at h
  simp only [Bool.and_eq_true, decide_eq_true_eq] at h
  exact h.1.1.2
theorem allB_select (h : allB md ops m tb = true) : Region.noSelect ops = true := by
  unfold allB at h
  simp only [Bool.and_eq_true] at h
  exact h.1.1.1
theorem allB_tb (h : allB md ops m tb = true) {j s : Nat} (hp : (j, s) ∈ tb) : j < m ∧ s < m ∧ (∃ o, ops[s]? = some o ∧ o.dst = none ∧ ∃ e ∈ o.after, Region.binds md e = true ∧ e.on = j) ∧ ∀ j', (j', s) ∈ tb → j' = j := by
  unfold allB at h
  simp only [Bool.and_eq_true] at h
  have h1 := List.all_eq_true.1 h.1.2 _ hp
  simp only [Bool.and_eq_true, decide_eq_true_eq] at h1
  obtain ⟨⟨⟨h2, h3⟩, h4⟩, h5⟩ := h1
  refine ⟨h2, h3, ?_, fun j' hj' => ?_⟩
  · cases ho : ops[s]? with
    | none => rw [ho] at h4; cases h4
    | some o =>
      simp only [ho, Bool.and_eq_true, Option.isNone_iff_eq_none] at h4
      obtain ⟨e, he, hb⟩ := Array.any_eq_true'.1 h4.2
      simp only [Bool.and_eq_true, beq_iff_eq] at hb
      exact ⟨o, rfl, h4.1, e, he, hb.1, hb.2⟩
  · have := List.all_eq_true.1 h5 _ hj'
    simpa using this
theorem allB_at (h : allB md ops m tb = true) {i : Nat} {oi : Oper} (hm : i < m) (hi : ops[i]? = some oi) :
    (∀ e ∈ oi.after, Region.binds md e = true → e.on < i) ∧
    ∀ j oj t, j < m → ops[j]? = some oj → oj.dst = some t → (j ≠ i → oi.dst ≠ some t) ∧ (t ∈ oi.looksAt ops → (isNew oj = false ∨ (j, i) ∈ tb) ∧ ∃ e ∈ oi.after, Region.binds md e = true ∧ e.on = j) := by
  unfold allB at h
  simp only [Bool.and_eq_true] at h
  have h1 := List.all_eq_true.1 h.2 i (List.mem_range.2 (Array.getElem?_eq_some_iff.1 hi).1)
  simp only [hi, if_pos hm, Bool.and_eq_true] at h1
  obtain ⟨h3, h4⟩ := h1
  refine ⟨fun e he hb => ?_, fun j oj t hjm hj ht => ?_⟩
  · have := Array.all_eq_true_iff_forall_mem.1 h3 e he
    simpa [hb] using this
  · have h5 := List.all_eq_true.1 h4 j (List.mem_range.2 hjm)
    simp only [hj, ht, Bool.and_eq_true, Bool.or_eq_true, beq_iff_eq, bne_iff_ne, Bool.not_eq_true'] at h5
    refine ⟨fun hne => ?_, fun hmem => ?_⟩
    · rcases h5.1 with h6 | h6
      · exact absurd h6 hne
      · exact h6
    · rcases h5.2 with h6 | h6
      · exact absurd (List.contains_iff_mem.2 hmem) (by simpa using h6)
      · obtain ⟨e, he, hb⟩ := Array.any_eq_true'.1 h6.2
        simp only [Bool.and_eq_true, beq_iff_eq] at hb
        exact ⟨h6.1.imp id (fun h => List.contains_iff_mem.1 h), e, he, hb.1, hb.2⟩
theorem allB_late (h : allB md ops m tb = true) {i : Nat} {oi : Oper} (hm : ¬ i < m) (hi : ops[i]? = some oi) : ∀ j, j < m → ∃ e ∈ oi.after, Region.binds md e = true ∧ e.on = j := by
  unfold allB at h
  simp only [Bool.and_eq_true] at h
  have h1 := List.all_eq_true.1 h.2 i (List.mem_range.2 (Array.getElem?_eq_some_iff.1 hi).1)
  simp only [hi, if_neg hm, List.all_eq_true, List.mem_range] at h1
  intro j hj
  obtain ⟨e, he, hb⟩ := Array.any_eq_true'.1 (h1 j hj)
  simp only [Bool.and_eq_true, beq_iff_eq] at hb
  exact ⟨e, he, hb.1, hb.2⟩
end
theorem ready_spec {l : Array Bool} {i : Nat} (h : i ∈ Region.ready md ops l) : i < ops.size ∧ l.getD i true = false ∧ ∀ oi, ops[i]? = some oi → ∀ e ∈ oi.after, Region.binds md e = true → l.getD e.on false = true := by
  unfold Region.ready at h
  rw [List.mem_filter, List.mem_range] at h
  obtain ⟨h1, h2⟩ := h
  simp only [Bool.and_eq_true, Bool.not_eq_true'] at h2
  refine ⟨h1, h2.1, fun oi hoi e he hb => ?_⟩
  have h3 := h2.2
  simp only [hoi, Option.map_some, Option.getD_some] at h3
  have := Array.all_eq_true_iff_forall_mem.1 h3 e he
  simpa [hb] using this
theorem unlisted_ready {m : Nat} {tb : List (Nat × Nat)} (h : allB md ops m tb = true) {l : Array Bool} (hl : l.size = ops.size) : ∀ (i : Nat), i < m → l.getD i true = false → Region.ready md ops l ≠ [] := by
  have hle := allB_le h
  intro i
  induction i using Nat.strongRecOn with
  | _ i ih =>
    intro hi hu
    by_cases hex : ∃ j, j < i ∧ l.getD j true = false
    · obtain ⟨j, hj, hju⟩ := hex
      exact ih j hj (by omega) hju
    · intro hr
      have hoi : ops[i]? = some ops[i] := Array.getElem?_eq_getElem (by omega)
      have hm : i ∈ Region.ready md ops l := by
        unfold Region.ready
        rw [List.mem_filter, List.mem_range]
        refine ⟨by omega, ?_⟩
        simp only [hu, hoi, Bool.not_false, Bool.true_and, Option.map_some, Option.getD_some]
        rw [Array.all_eq_true_iff_forall_mem]
        intro e he
        cases hb : Region.binds md e with
        | false => rfl
        | true =>
          have hlt := (allB_at h hi hoi).1 e he hb
          have : ¬ l.getD e.on true = false := fun hf => hex ⟨e.on, hlt, hf⟩
          have hsz : e.on < l.size := by omega
          simp only [Array.getD_eq_getD_getElem?, Array.getElem?_eq_getElem hsz, Option.getD_some] at this ⊢
          simpa using this
      rw [hr] at hm
      cases hm
/-- How many of the first m have not come up. -/
def unl (l : Array Bool) (m : Nat) : Nat := (l.toList.take m).countP (fun b => !b)
theorem unl_set {l : Array Bool} {i m : Nat} (him : i < m) (hi : i < l.size) (hu : l.getD i true = false) : unl (l.setIfInBounds i true) m + 1 = unl l m := by
  have hli : l[i] = false := by
    simpa [Array.getD_eq_getD_getElem?, Array.getElem?_eq_getElem hi] using hu
  unfold unl
  have h0 : i < (l.toList.take m).length := by rw [List.length_take]; simp; omega
  have e1 : l.toList.take m = (l.toList.take m).take i ++ (l.toList.take m)[i] :: (l.toList.take m).drop (i + 1) := by
    rw [← List.drop_eq_getElem_cons h0, List.take_append_drop]
  have e2 : (l.setIfInBounds i true).toList.take m = (l.toList.take m).take i ++ true :: (l.toList.take m).drop (i + 1) := by
    rw [Array.toList_setIfInBounds, List.take_set, List.set_eq_take_append_cons_drop, if_pos h0]
  have hli2 : (l.toList.take m)[i] = false := by simpa using hli
  rw [e2]
  conv => rhs; rw [e1]
  rw [hli2, List.countP_append, List.countP_append, List.countP_cons, List.countP_cons]
  simp only [Bool.not_true, Bool.not_false, Bool.false_eq_true, if_false, if_true]
  omega
theorem unl_zero {l : Array Bool} {m : Nat} (h : unl l m = 0) {i : Nat} (him : i < m) (hi : i < l.size) : l.getD i false = true := by
  unfold unl at h
  rw [List.countP_eq_zero] at h
  have := h l[i] (by
    rw [List.mem_take_iff_getElem]
    exact ⟨i, by simp; omega, by simp⟩)
  simpa [Array.getD_eq_getD_getElem?, Array.getElem?_eq_getElem hi] using this
theorem unl_pos {l : Array Bool} {m : Nat} (h : unl l m ≠ 0) : ∃ i, i < m ∧ i < l.size ∧ l.getD i true = false := by
  unfold unl at h
  obtain ⟨b, hb, hb2⟩ := List.countP_pos_iff.1 (Nat.pos_of_ne_zero h)
  rw [List.mem_take_iff_getElem] at hb
  obtain ⟨i, hi, rfl⟩ := hb
  have hil : i < l.size := by simp at hi; omega
  refine ⟨i, by omega, hil, ?_⟩
  simpa [Array.getD_eq_getD_getElem?, Array.getElem?_eq_getElem hil] using hb2
theorem looks_congr {o : Oper} {a b : Act} (hs : ∀ cs b, o.op ≠ .select cs b) (h : ∀ t, t ∈ o.looksAt ops → a.tmps[t]? = b.tmps[t]?) :
    execOp a.eval o = execOp b.eval o ∧ Region.wanted o (yielded ops a.tmps) = Region.wanted o (yielded ops b.tmps) := by
  constructor
  · refine execOp_congr o hs fun x hx => ?_
    cases x with
    | tmp t =>
      have := h t (List.mem_append_left _ (List.mem_filterMap.2 ⟨.tmp t, by simpa using hx, rfl⟩))
      simp only [Act.eval, Array.getD_eq_getD_getElem?, this]
    | _ => rfl
  · unfold Region.wanted
    cases hg : o.guard with
    | none => rfl
    | some gw =>
      obtain ⟨g, want⟩ := gw
      have hy : yielded ops a.tmps g = yielded ops b.tmps g := by
        unfold yielded
        cases ht : (ops[g]?).bind (·.dst) with
        | none => rfl
        | some t =>
          have := h t (by simp [Oper.looksAt, hg, ht])
          simp [this]
      simp only [hy]
/-- What an operation does: it leaves a value; it makes a block (and which operation stores what into it); it stores into a block. -/
inductive Knd where
  | det (v : Value)
  | new (cs : Array Value) (t : TypeId) (st : Option (Nat × Array Value))
  | sto (j : Nat) (cs : Array Value)
/-- The value that an operation leaves, where G tells the blocks. -/
def valOf (G : Nat → Nat) (i : Nat) : Knd → Value
  | .det v => v
  | .new _ _ _ => .pointer (some ⟨G i, 0, none⟩)
  | .sto _ _ => undef
/-- What a block holds by now; in the end. -/
def contL (l : Array Bool) (cs : Array Value) : Option (Nat × Array Value) → Array Value
  | some (s, c) => if l.getD s false = true then c else cs
  | none => cs
def contE (cs : Array Value) : Option (Nat × Array Value) → Array Value
  | some (_, c) => c
  | none => cs
/-- The frame behind all, by its values in the operations' order. -/
def putVals (ops : Array Oper) (vals : Nat → Value) (a : Act) (n : Nat) : Act := (List.range n).foldl (fun a i => a.put ((ops[i]?).bind (·.dst)) (vals i)) a
theorem putVals_spec {m : Nat} {tb : List (Nat × Nat)} (hc : allB md ops m tb = true) (vals : Nat → Value) (a : Act) : ∀ (n : Nat), n ≤ m → (putVals ops vals a n).tmps.size = a.tmps.size ∧ (putVals ops vals a n).defers = a.defers ∧
    (∀ t, (∀ i oi, i < m → ops[i]? = some oi → oi.dst = some t → n ≤ i) → (putVals ops vals a n).tmps[t]? = a.tmps[t]?) ∧
    (∀ i oi d, i < n → ops[i]? = some oi → oi.dst = some d → (putVals ops vals a n).tmps[d]? = if d < a.tmps.size then some (vals i) else none) := by
  have hle := allB_le hc
  intro n
  induction n with
  | zero => intro _; exact ⟨rfl, rfl, fun _ _ => rfl, fun i _ _ h => by omega⟩
  | succ n ih =>
    intro hn
    obtain ⟨h1, h2, h3, h4⟩ := ih (by omega)
    have hon : ops[n]? = some ops[n] := Array.getElem?_eq_getElem (by omega)
    generalize ops[n] = on at hon
    obtain ⟨_, hlk⟩ := allB_at hc (show n < m by omega) hon
    have e : putVals ops vals a (n + 1) = (putVals ops vals a n).put on.dst (vals n) := by
      unfold putVals
      rw [List.range_succ, List.foldl_append, List.foldl_cons, List.foldl_nil, hon, Option.bind_some]
    rw [e]
    generalize putVals ops vals a n = b at h1 h2 h3 h4
    cases hdn : on.dst with
    | none =>
      refine ⟨h1, h2, fun t ht => h3 t fun i oi him hoi hd => by have := ht i oi him hoi hd; omega, fun i oi d hi hoi hd => ?_⟩
      by_cases hin : i = n
      · subst hin
        rw [hon] at hoi
        obtain rfl := Option.some.inj hoi
        rw [hdn] at hd
        cases hd
      · exact h4 i oi d (by omega) hoi hd
    | some dn =>
      refine ⟨by simp [Act.put, h1], by simp [Act.put, h2], fun t ht => ?_, fun i oi d hi hoi hd => ?_⟩
      · have hne : dn ≠ t := by
          rintro rfl
          have := ht n on (by omega) hon hdn
          omega
        simp only [Act.put]
        rw [Array.getElem?_setIfInBounds_ne hne]
        exact h3 t fun i oi him hoi hd => by have := ht i oi him hoi hd; omega
      · simp only [Act.put]
        by_cases hin : i = n
        · subst hin
          rw [hon] at hoi
          obtain rfl := Option.some.inj hoi
          rw [hdn] at hd
          obtain rfl := Option.some.inj hd
          rw [Array.getElem?_setIfInBounds_self, h1]
        · have hne : dn ≠ d := fun he => (hlk i oi d (by omega) hoi hd).1 hin (by rw [hdn, he])
          rw [Array.getElem?_setIfInBounds_ne hne]
          exact h4 i oi d (by omega) hoi hd
/-- The slots of what has come up hold what they hold in the end; so do those that nothing writes. The blocks that have been made are there, and are apart. -/
structure Inv (md : Region.Mode) (ops : Array Oper) (m : Nat) (ks : Nat → Knd) (n0 : Nat) (l : Array Bool) (G : Nat → Nat) (aF a : Act) (w : World) : Prop where
  size : a.tmps.size = aF.tmps.size
  defers : a.defers = aF.defers
  slot : ∀ t, (∀ i oi, i < m → ops[i]? = some oi → oi.dst = some t → l.getD i false = true) → a.tmps[t]? = aF.tmps[t]?
  late : ∀ i, m ≤ i → l.getD i false = false
  closed : ∀ i oi, ops[i]? = some oi → l.getD i false = true → ∀ e ∈ oi.after, Region.binds md e = true → l.getD e.on false = true
  block : ∀ i cs t st, i < m → l.getD i false = true → ks i = .new cs t st → w.heap[G i]? = some (.cells (contL l cs st) t (0, 0)) ∧ n0 ≤ G i
  apart : ∀ i j cs t st cs' t' st', i < m → j < m → i ≠ j → l.getD i false = true → l.getD j false = true → ks i = .new cs t st → ks j = .new cs' t' st' → G i ≠ G j
/-- What is shown of the operations' kinds. -/
structure Kinds (P : Program) (ops : Array Oper) (S : World → Prop) (m : Nat) (tb : List (Nat × Nat)) (a0 : Act) (ks : Nat → Knd) (n0 : Nat) : Prop where
  det : ∀ (G : Nat → Nat) i oi v, i < m → ops[i]? = some oi → ks i = .det v → Does P ops S oi (putVals ops (fun i => valOf G i (ks i)) a0 m) v
  new : ∀ (G : Nat → Nat) i oi cs t st, i < m → ops[i]? = some oi → ks i = .new cs t st → oi.dst.isSome = true ∧ News P ops S oi (putVals ops (fun i => valOf G i (ks i)) a0 m) cs t ∧ (∀ s c, st = some (s, c) → (i, s) ∈ tb)
  sto : ∀ (G : Nat → Nat) i oi j c, i < m → ops[i]? = some oi → ks i = .sto j c → oi.dst = none ∧ (j, i) ∈ tb ∧ ∃ cs t, ks j = .new cs t (some (i, c)) ∧ Stores P ops S n0 oi (putVals ops (fun i => valOf G i (ks i)) a0 m) (G j) cs t c
  all : ∀ i oi, i < m → ops[i]? = some oi → oi.dst = none → ∃ j c, ks i = .sto j c
theorem Below.less {n n' : Nat} {w w1 : World} (h : Below n w w1) (hn : n' ≤ n) : Below n' w w1 := ⟨h.os, h.tape, h.output, h.size, fun k hk => h.block k (by omega)⟩
theorem all_go {m : Nat} {tb : List (Nat × Nat)} (hc : allB md ops m tb = true) (a0 : Act) (ks : Nat → Knd) (n0 : Nat) (hS : ∀ w w1, S w → Below n0 w w1 → S w1) (hn0 : ∀ w, S w → n0 ≤ w.heap.size) (hK : Kinds P ops S m tb a0 ks n0)
    (hend : ∀ (G : Nat → Nat) w, S w → (∀ i cs t st, i < m → ks i = .new cs t st → w.heap[G i]? = some (.cells (contE cs st) t (0, 0)) ∧ n0 ≤ G i) → (∀ i j cs t st cs' t' st', i < m → j < m → i ≠ j → ks i = .new cs t st → ks j = .new cs' t' st' → G i ≠ G j) →
      wpAny P md ops Q (ops.size - m) (bm ops.size (2 ^ m - 1)) (putVals ops (fun i => valOf G i (ks i)) a0 m) w) :
    ∀ (p : Nat) (l : Array Bool) (G : Nat → Nat) (a : Act) (w : World), l.size = ops.size → unl l m = p → Inv md ops m ks n0 l G (putVals ops (fun i => valOf G i (ks i)) a0 m) a w → S w → wpAny P md ops Q (p + (ops.size - m)) l a w := by
  have hle := allB_le hc
  have hstm : ∀ i cs t s c, i < m → ks i = .new cs t (some (s, c)) → s < m ∧ ks s = .sto i c := by
    intro i cs t s c hi hk
    obtain ⟨_, _, htb⟩ := hK.new (fun _ => 0) i ops[i] cs t _ hi (Array.getElem?_eq_getElem (by omega)) hk
    obtain ⟨_, hs, ⟨o, ho, hdn, _⟩, hu⟩ := allB_tb hc (htb s c rfl)
    obtain ⟨j, c', hks⟩ := hK.all s o hs ho hdn
    obtain ⟨_, hj, cs2, t2, hkj, _⟩ := hK.sto (fun _ => 0) s o j c' hs ho hks
    obtain rfl := hu j hj
    rw [hk] at hkj
    injection hkj with _ _ h3
    injection h3 with h3
    injection h3 with _ h4
    subst h4
    exact ⟨hs, hks⟩
  intro p
  induction p with
  | zero =>
    intro l G a w hsz hu hI hSw
    have hall : ∀ i, i < m → l.getD i false = true := fun i hi => unl_zero hu hi (by omega)
    have hl : l = bm ops.size (2 ^ m - 1) := by
      refine Array.ext_getElem? fun i => ?_
      unfold bm
      have e : ((List.range ops.size).map fun i => (2 ^ m - 1).testBit i).toArray[i]? = ((List.range ops.size).map fun i => (2 ^ m - 1).testBit i)[i]? := List.getElem?_toArray
      rw [e, List.getElem?_map]
      by_cases hi : i < ops.size
      · rw [List.getElem?_range hi, Option.map_some, Nat.testBit_two_pow_sub_one, Array.getElem?_eq_getElem (by omega)]
        congr 1
        by_cases him : i < m
        · have := hall i him
          simp only [Array.getD_eq_getD_getElem?, Array.getElem?_eq_getElem (show i < l.size by omega), Option.getD_some] at this
          rw [this]; simp [him]
        · have := hI.late i (by omega)
          simp only [Array.getD_eq_getD_getElem?, Array.getElem?_eq_getElem (show i < l.size by omega), Option.getD_some] at this
          rw [this]; simp [him]
      · rw [Array.getElem?_eq_none (by omega), List.getElem?_eq_none (by simp; omega)]; rfl
    have ha : a = putVals ops (fun i => valOf G i (ks i)) a0 m := by
      have h1 := hI.size
      have h2 := hI.defers
      have h3 := hI.slot
      generalize putVals ops (fun i => valOf G i (ks i)) a0 m = aF at h1 h2 h3
      cases a with | mk at_ ad_ => cases aF with | mk bt_ bd_ =>
      simp only at h1 h2 h3
      subst h2
      congr 1
      exact Array.ext_getElem? fun t => h3 t fun i oi him hi _ => hall i him
    rw [Nat.zero_add]
    have hcont : ∀ i cs t st, i < m → ks i = .new cs t st → contL l cs st = contE cs st := by
      intro i cs t st hi hk
      cases st with
      | none => rfl
      | some sc =>
        obtain ⟨s, c⟩ := sc
        unfold contL contE
        simp only
        rw [if_pos (hall s (hstm i cs t s c hi hk).1)]
    have := hend G w hSw (fun i cs t st him hk => by have h := hI.block i cs t st him (hall i him) hk; rwa [hcont i cs t st him hk] at h) (fun i j cs t st cs' t' st' hi hj hne hci hdj => hI.apart i j cs t st cs' t' st' hi hj hne (hall i hi) (hall j hj) hci hdj)
    rw [hl, ha]
    exact this
  | succ p ih =>
    intro l G a w hsz hu hI hSw
    obtain ⟨i0, hi0m, hi0, hi0u⟩ := unl_pos (l := l) (m := m) (by omega)
    rw [show p + 1 + (ops.size - m) = p + (ops.size - m) + 1 by omega]
    constructor
    · intro hr
      exact absurd hr (unlisted_ready hc hsz i0 hi0m hi0u)
    · intro i hi
      obtain ⟨h1, h2, h3⟩ := ready_spec hi
      have hoi : ops[i]? = some ops[i] := Array.getElem?_eq_getElem h1
      generalize ops[i] = oi at hoi
      have hil : l.getD i false = false := by
        simpa [Array.getD_eq_getD_getElem?, Array.getElem?_eq_getElem (show i < l.size by omega)] using h2
      have him : i < m := by
        refine Classical.byContradiction fun him => ?_
        obtain ⟨e, he, hb, hon⟩ := allB_late hc him hoi i0 hi0m
        have := h3 oi hoi e he hb
        rw [hon] at this
        simp only [Array.getD_eq_getD_getElem?, Array.getElem?_eq_getElem hi0, Option.getD_some] at this hi0u
        rw [this] at hi0u
        cases hi0u
      obtain ⟨_, hlook⟩ := allB_at hc him hoi
      have hsee : ∀ t, t ∈ oi.looksAt ops → a.tmps[t]? = (putVals ops (fun i => valOf G i (ks i)) a0 m).tmps[t]? := by
        intro t ht
        refine hI.slot t fun j oj hjm hj hjt => ?_
        obtain ⟨_, e, he, hb, hon⟩ := (hlook j oj t hjm hj hjt).2 ht
        rw [← hon]
        exact h3 oi hoi e he hb
      obtain ⟨hex, hwa⟩ := looks_congr (fun cs b => Region.noSelect_spec (allB_select hc) i oi cs b hoi) hsee
      have hnl : ∀ j, (l.setIfInBounds i true).getD j false = true → j = i ∨ l.getD j false = true := by
        intro j hj
        by_cases hji : j = i
        · exact .inl hji
        · right
          simpa [Array.getD_eq_getD_getElem?, Array.getElem?_setIfInBounds, Ne.symm hji] using hj
      have hln : ∀ j, l.getD j false = true → (l.setIfInBounds i true).getD j false = true := by
        intro j hj
        by_cases hji : i = j
        · subst hji
          simp [Array.getD_eq_getD_getElem?, Array.getElem?_setIfInBounds, show i < l.size by omega]
        · simpa [Array.getD_eq_getD_getElem?, Array.getElem?_setIfInBounds, hji] using hj
      have hlate : ∀ j, m ≤ j → (l.setIfInBounds i true).getD j false = false := by
        intro j hj
        have := hI.late j hj
        have hne : i ≠ j := by omega
        simpa [Array.getD_eq_getD_getElem?, Array.getElem?_setIfInBounds, hne] using this
      have hclosed : ∀ j oj, ops[j]? = some oj → (l.setIfInBounds i true).getD j false = true → ∀ e ∈ oj.after, Region.binds md e = true → (l.setIfInBounds i true).getD e.on false = true := by
        intro j oj hoj hj e he hb
        rcases hnl j hj with rfl | h
        · rw [hoi] at hoj
          obtain rfl := Option.some.inj hoj
          exact hln _ (h3 oi hoi e he hb)
        · exact hln _ (hI.closed j oj hoj h e he hb)
      have hlt : ∀ j cs t st, j < m → l.getD j false = true → ks j = .new cs t st → G j < w.heap.size := fun j cs t st hj hlj hkj =>
        (Array.getElem?_eq_some_iff.1 (hI.block j cs t st hj hlj hkj).1).1
      -- what holds behind it, the blocks told by H
      have hnext : ∀ (H : Nat → Nat) w1, (∀ j, j ≠ i → H j = G j) → S w1 →
          (∀ j cs t st, j < m → j ≠ i → l.getD j false = true → ks j = .new cs t st → w1.heap[G j]? = some (.cells (contL (l.setIfInBounds i true) cs st) t (0, 0))) →
          (∀ cs t st, ks i = .new cs t st → w1.heap[H i]? = some (.cells (contL (l.setIfInBounds i true) cs st) t (0, 0)) ∧ n0 ≤ H i ∧ w.heap.size ≤ H i) →
          wpAny P md ops Q (p + (ops.size - m)) (l.setIfInBounds i true) (a.put oi.dst (valOf H i (ks i))) w1 := by
        intro H w1 hH hS1 hk hb
        have sG := putVals_spec hc (fun i => valOf G i (ks i)) a0 m (Nat.le_refl m)
        have sH := putVals_spec hc (fun i => valOf H i (ks i)) a0 m (Nat.le_refl m)
        have hps : (a.put oi.dst (valOf H i (ks i))).tmps.size = a.tmps.size ∧ (a.put oi.dst (valOf H i (ks i))).defers = a.defers := by
          cases oi.dst <;> simp [Act.put]
        refine ih _ H _ _ (by simpa using hsz) (by have := unl_set (l := l) him (by omega) h2; omega) ?_ hS1
        refine ⟨by rw [hps.1, hI.size, sG.1, sH.1], by rw [hps.2, hI.defers, sG.2.1, sH.2.1], fun t ht => ?_, hlate, hclosed, fun j cs t st hj hlj hkj => ?_, fun j j' cs t st cs' t' st' hj hj' hne hlj hlj' hc1 hd1 => ?_⟩
        · by_cases htd : oi.dst = some t
          · rw [htd]
            simp only [Act.put]
            rw [Array.getElem?_setIfInBounds_self, sH.2.2.2 i oi t him hoi htd, hI.size, sG.1]
          · have e1 : (a.put oi.dst (valOf H i (ks i))).tmps[t]? = a.tmps[t]? := by
              cases hdd : oi.dst with
              | none => rfl
              | some d =>
                simp only [Act.put]
                exact Array.getElem?_setIfInBounds_ne fun e => htd (by rw [hdd, e])
            have hall : ∀ j oj, j < m → ops[j]? = some oj → oj.dst = some t → l.getD j false = true := by
              intro j oj hj hoj hdj
              rcases hnl j (ht j oj hj hoj hdj) with rfl | h
              · rw [hoi] at hoj
                obtain rfl := Option.some.inj hoj
                exact absurd hdj htd
              · exact h
            rw [e1, hI.slot t hall]
            by_cases hex2 : ∃ j oj, j < m ∧ ops[j]? = some oj ∧ oj.dst = some t
            · obtain ⟨j, oj, hj, hoj, hdj⟩ := hex2
              have hji : j ≠ i := by
                rintro rfl
                rw [hoi] at hoj
                obtain rfl := Option.some.inj hoj
                exact htd hdj
              rw [sG.2.2.2 j oj t hj hoj hdj, sH.2.2.2 j oj t hj hoj hdj]
              have : valOf G j (ks j) = valOf H j (ks j) := by
                unfold valOf
                rw [hH j hji]
              simp only [this]
            · have hno : ∀ j oj, j < m → ops[j]? = some oj → oj.dst = some t → m ≤ j := fun j oj hj hoj hdj => absurd ⟨j, oj, hj, hoj, hdj⟩ hex2
              rw [sG.2.2.1 t hno, sH.2.2.1 t hno]
        · by_cases hji : j = i
          · subst hji
            exact ⟨(hb cs t st hkj).1, (hb cs t st hkj).2.1⟩
          · have h : l.getD j false = true := (hnl j hlj).resolve_left hji
            rw [hH j hji]
            exact ⟨hk j cs t st hj hji h hkj, (hI.block j cs t st hj h hkj).2⟩
        · by_cases hji : j = i
          · subst hji
            have hj'i : j' ≠ j := fun e => hne e.symm
            have hl' : l.getD j' false = true := (hnl j' hlj').resolve_left hj'i
            rw [hH j' hj'i]
            have h5 := (hb cs t st hc1).2.2
            have h6 := hlt j' cs' t' st' hj' hl' hd1
            omega
          · have hl1 : l.getD j false = true := (hnl j hlj).resolve_left hji
            by_cases hj'i : j' = i
            · subst hj'i
              rw [hH j hji]
              have h5 := (hb cs' t' st' hd1).2.2
              have h6 := hlt j cs t st hj hl1 hc1
              omega
            · have hl2 : l.getD j' false = true := (hnl j' hlj').resolve_left hj'i
              rw [hH j hji, hH j' hj'i]
              exact hI.apart j j' cs t st cs' t' st' hj hj' hne hl1 hl2 hc1 hd1
      -- a block's content is told anew by its own store alone
      have hsame : ∀ j cs t st, j < m → ks j = .new cs t st → (∀ j' c, ks i = .sto j' c → j' ≠ j) → contL (l.setIfInBounds i true) cs st = contL l cs st := by
        intro j cs t st hj hkj hno
        cases st with
        | none => rfl
        | some sc =>
          obtain ⟨s, c⟩ := sc
          have hsi : s ≠ i := by
            rintro rfl
            exact hno j c (hstm j cs t s c hj hkj).2 rfl
          unfold contL
          simp only
          have : (l.setIfInBounds i true).getD s false = l.getD s false := by
            simp [Array.getD_eq_getD_getElem?, Array.getElem?_setIfInBounds, Ne.symm hsi]
          rw [this]
      have hkeep : ∀ w1 : World, (∀ j', ¬ ∃ c, ks i = .sto j' c) → (∀ k, k < w.heap.size → w1.heap[k]? = w.heap[k]?) → ∀ j cs t st, j < m → j ≠ i → l.getD j false = true → ks j = .new cs t st → w1.heap[G j]? = some (.cells (contL (l.setIfInBounds i true) cs st) t (0, 0)) := by
        intro w1 hno hk j cs t st hj _ hlj hkj
        rw [hk _ (hlt j cs t st hj hlj hkj), hsame j cs t st hj hkj (fun j' c hh => absurd ⟨c, hh⟩ (hno j'))]
        exact (hI.block j cs t st hj hlj hkj).1
      unfold Go.wpOp
      simp only [hoi]
      cases hk : ks i with
      | det v =>
        have hno : ∀ (w1 : World) cs t st, ks i = .new cs t st → w1.heap[G i]? = some (.cells (contL (l.setIfInBounds i true) cs st) t (0, 0)) ∧ n0 ≤ G i ∧ w.heap.size ≤ G i := fun _ cs t st h => by rw [hk] at h; cases h
        have hnos : ∀ j', ¬ ∃ c, ks i = .sto j' c := fun j' ⟨c, h⟩ => by rw [hk] at h; cases h
        have hv : valOf G i (ks i) = v := by rw [hk]; rfl
        rcases hK.det G i oi v him hoi hk with ⟨hw, hv0⟩ | ⟨hw, hrun⟩
        · rw [hwa, hw]
          simp only [Bool.false_eq_true, if_false]
          have := hnext G w (fun _ _ => rfl) hSw (hkeep w hnos fun _ _ => rfl) (hno w)
          rw [hv, hv0] at this
          exact this
        · rw [hwa, hw]
          simp only [if_true]
          left
          unfold Oper.wp
          rw [hex]
          rcases hrun w hSw with hr | ⟨f, args, hr, hcall⟩
          · rw [hr, Oper.upon_value]
            have := hnext G w (fun _ _ => rfl) hSw (hkeep w hnos fun _ _ => rfl) (hno w)
            rw [hv] at this
            exact this
          · rw [hr, Oper.upon_enter]
            refine hcall.mono fun e w1 ⟨he, hb1⟩ => ?_
            subst he
            have := hnext G w1 (fun _ _ => rfl) (hS w w1 hSw (Below.less hb1 (hn0 w hSw))) (hkeep w1 hnos fun k hk => hb1.block k hk) (hno w1)
            rw [hv] at this
            exact this
      | new cs t st =>
        have hnos : ∀ j', ¬ ∃ c, ks i = .sto j' c := fun j' ⟨c, h⟩ => by rw [hk] at h; cases h
        obtain ⟨_, ⟨hw, hrun⟩, _⟩ := hK.new G i oi cs t st him hoi hk
        rw [hwa, hw]
        simp only [if_true]
        left
        unfold Oper.wp
        rw [hex, hrun w hSw, Oper.upon_value]
        have hbel : Below w.heap.size w (w.alloc (.cells cs t (0, 0))) := below_alloc (Below.refl _ _) _
        have hcont : contL (l.setIfInBounds i true) cs st = cs := by
          rw [hsame i cs t st him hk (fun j' c hh => absurd ⟨c, hh⟩ (hnos j'))]
          cases st with
          | none => rfl
          | some sc =>
            obtain ⟨s, c⟩ := sc
            obtain ⟨hs, hks⟩ := hstm i cs t s c him hk
            obtain ⟨_, _, htb⟩ := hK.new G i oi cs t _ him hoi hk
            obtain ⟨_, _, ⟨o, ho, _, e, he, hb, hon⟩, _⟩ := allB_tb hc (htb s c rfl)
            have : l.getD s false = false := by
              cases hls : l.getD s false with
              | false => rfl
              | true =>
                have := hI.closed s o ho hls e he hb
                rw [hon, hil] at this
                cases this
            unfold contL
            simp only
            rw [this, if_neg (by decide)]
        have := hnext (fun j => if j = i then w.heap.size else G j) (w.alloc (.cells cs t (0, 0))) (fun j hj => if_neg hj) (hS w _ hSw (Below.less hbel (hn0 w hSw))) (hkeep _ hnos fun k hk => hbel.block k hk) (fun cs' t' st' hk' => by
          rw [hk] at hk'
          injection hk' with e1 e2 e3
          subst e1
          subst e2
          subst e3
          simp only [if_true]
          rw [hcont]
          exact ⟨blk_new w _, hn0 w hSw, Nat.le_refl _⟩)
        rw [hk] at this
        simpa [valOf] using this
      | sto j c =>
        obtain ⟨hdn, hjtb, cs, t, hkj, hw, hrun⟩ := hK.sto G i oi j c him hoi hk
        obtain ⟨hjm, _, ⟨o', ho', _, e, he, hb, hon⟩, _⟩ := allB_tb hc hjtb
        rw [hoi] at ho'
        obtain rfl := Option.some.inj ho'
        have hlj : l.getD j false = true := by
          rw [← hon]
          exact h3 oi hoi e he hb
        have hbl := hI.block j cs t _ hjm hlj hkj
        have hcl : contL l cs (some (i, c)) = cs := by
          unfold contL
          simp only
          rw [hil, if_neg (by decide)]
        rw [hcl] at hbl
        obtain ⟨w1, hr, hmut, hc1⟩ := hrun w hSw hbl.1 hbl.2
        rw [hwa, hw]
        simp only [if_true]
        left
        unfold Oper.wp
        rw [hex, hr, Oper.upon_skip, hdn]
        have := hnext G w1 (fun _ _ => rfl) (hS w w1 hSw (hmut.below hbl.2)) (fun j' cs' t' st' hj' _ hlj' hkj' => ?_) (fun cs' t' st' hk' => by rw [hk] at hk'; cases hk')
        · rw [hdn] at this
          exact this
        · by_cases hjj : j' = j
          · subst hjj
            rw [hkj] at hkj'
            injection hkj' with e1 e2 e3
            subst e1
            subst e2
            subst e3
            rw [hc1]
            have : (l.setIfInBounds i true).getD i false = true := by
              simp [Array.getD_eq_getD_getElem?, Array.getElem?_setIfInBounds, show i < l.size by omega]
            unfold contL
            simp only
            rw [if_pos this]
          · have hne := hI.apart j' j cs' t' st' cs t _ hj' hjm hjj hlj' hlj hkj' hkj
            rw [hmut.block _ hne, hsame j' cs' t' st' hj' hkj' (fun j2 c2 hh => by
              rw [hk] at hh
              injection hh with e1
              subst e1
              exact fun e => hjj e.symm)]
            exact (hI.block j' cs' t' st' hj' hlj' hkj').1
/-! ### the walk -/
/-- A block that has been made: by which operation, for which slot, with what in it, and what is stored into it by which operation. -/
structure Pend where
  j : Nat
  N : Tmp
  cs : Array Value
  t : TypeId
  st : Option (Nat × Array Value)
/-- The blocks that have been made, one by one. -/
def endG (K : Act → World → Prop) (n0 : Nat) : List Pend → List Nat → Act → World → Prop
  | [], _, a, w => K a w
  | p :: ps, av, a, w => ∀ g, g ∉ av → w.heap[g]? = some (.cells (contE p.cs p.st) p.t (0, 0)) → n0 ≤ g → endG K n0 ps (g :: av) (a.put (some p.N) (.pointer (some ⟨g, 0, none⟩))) w
/-- The operations one by one, in their own order. -/
def wpSeq (P : Program) (ops : Array Oper) (S : World → Prop) (K : Act → World → Prop) (n0 : Nat) (tb : List (Nat × Nat)) : List Oper → Nat → Act → List Pend → Prop
  | [], _, a, ps => ∀ w, S w → endG K n0 ps [] a w
  | o :: os, off, a, ps => (∃ v, o.dst.isSome = true ∧ isNew o = false ∧ Does P ops S o a v ∧ wpSeq P ops S K n0 tb os (off + 1) (a.put o.dst v) ps) ∨
    (∃ N cs t st, o.dst = some N ∧ isNew o = true ∧ News P ops S o a cs t ∧ (∀ s c, st = some (s, c) → (off, s) ∈ tb) ∧ wpSeq P ops S K n0 tb os (off + 1) a (ps ++ [⟨off, N, cs, t, st⟩])) ∨
    (∃ p c, p ∈ ps ∧ p.st = some (off, c) ∧ o.dst = none ∧ (p.j, off) ∈ tb ∧ (∀ g, Stores P ops S n0 o (a.put (some p.N) (.pointer (some ⟨g, 0, none⟩))) g p.cs p.t c) ∧ wpSeq P ops S K n0 tb os (off + 1) a ps)
def putK (a : Act) (p : Oper × Knd) : Act := match p.2 with
  | .det v => a.put p.1.dst v
  | _ => a
def newsK : Nat → List (Oper × Knd) → List Pend
  | _, [] => []
  | off, p :: L => (match p.2, p.1.dst with
    | .new cs t st, some N => [⟨off, N, cs, t, st⟩]
    | _, _ => []) ++ newsK (off + 1) L
theorem wpSeq_vals {K : Act → World → Prop} {n0 : Nat} {tb : List (Nat × Nat)} (os : List Oper) : ∀ (off : Nat) (a : Act) (ps : List Pend), wpSeq P ops S K n0 tb os off a ps → ∃ ks : List Knd, ks.length = os.length ∧
    (∀ k o v, os[k]? = some o → ks[k]? = some (.det v) → o.dst.isSome = true ∧ isNew o = false ∧ Does P ops S o (((os.zip ks).take k).foldl putK a) v) ∧
    (∀ k o cs t st, os[k]? = some o → ks[k]? = some (.new cs t st) → o.dst.isSome = true ∧ isNew o = true ∧ News P ops S o (((os.zip ks).take k).foldl putK a) cs t ∧ ∀ s c, st = some (s, c) → (off + k, s) ∈ tb) ∧
    (∀ k o j c, os[k]? = some o → ks[k]? = some (.sto j c) → o.dst = none ∧ (j, off + k) ∈ tb ∧ ∃ N cs t, ((⟨j, N, cs, t, some (off + k, c)⟩ : Pend) ∈ ps ∨ ∃ k' o', off + k' = j ∧ os[k']? = some o' ∧ o'.dst = some N ∧ ks[k']? = some (.new cs t (some (off + k, c)))) ∧
      ∀ g, Stores P ops S n0 o ((((os.zip ks).take k).foldl putK a).put (some N) (.pointer (some ⟨g, 0, none⟩))) g cs t c) ∧
    ∀ w, S w → endG K n0 (ps ++ newsK off (os.zip ks)) [] ((os.zip ks).foldl putK a) w := by
  induction os with
  | nil =>
    intro off a ps h
    exact ⟨[], rfl, fun k o v ho => by simp at ho, fun k o cs t st ho => by simp at ho, fun k o j c ho => by simp at ho, by simpa [wpSeq, newsK] using h⟩
  | cons o os ih =>
    intro off a ps h
    have hsh : ∀ k, off + 1 + k = off + (k + 1) := fun k => by omega
    rcases h with ⟨v, hs, hn, hd, h⟩ | ⟨N, cs, t, st, hN, hn, hd, htb, h⟩ | ⟨p, c, hp, hps, hdn, hptb, hst, h⟩
    · obtain ⟨ks, hl, h1, h2, h3, h4⟩ := ih _ _ _ h
      refine ⟨.det v :: ks, by simp [hl], fun k o' v' ho hk => ?_, fun k o' cs t st ho hk => ?_, fun k o' j c ho hk => ?_, by simpa [putK, newsK] using h4⟩
      · cases k with
        | zero =>
          simp only [List.getElem?_cons_zero, Option.some.injEq, Knd.det.injEq] at ho hk
          subst ho
          subst hk
          exact ⟨hs, hn, by simpa using hd⟩
        | succ k => simpa [putK] using h1 k o' v' (by simpa using ho) (by simpa using hk)
      · cases k with
        | zero => simp at hk
        | succ k =>
          have := h2 k o' cs t st (by simpa using ho) (by simpa using hk)
          rw [hsh] at this
          simpa [putK] using this
      · cases k with
        | zero => simp at hk
        | succ k =>
          obtain ⟨a1, a2, N, cs, t, a3, a4⟩ := h3 k o' j c (by simpa using ho) (by simpa using hk)
          rw [hsh] at a2 a3
          refine ⟨a1, a2, N, cs, t, a3.imp id ?_, by simpa [putK] using a4⟩
          rintro ⟨k', o'', e1, e2, e3, e4⟩
          exact ⟨k' + 1, o'', by omega, by simpa using e2, e3, by simpa using e4⟩
    · obtain ⟨ks, hl, h1, h2, h3, h4⟩ := ih _ _ _ h
      refine ⟨.new cs t st :: ks, by simp [hl], fun k o' v' ho hk => ?_, fun k o' cs' t' st' ho hk => ?_, fun k o' j c ho hk => ?_, ?_⟩
      · cases k with
        | zero => simp at hk
        | succ k => simpa [putK] using h1 k o' v' (by simpa using ho) (by simpa using hk)
      · cases k with
        | zero =>
          simp only [List.getElem?_cons_zero, Option.some.injEq, Knd.new.injEq] at ho hk
          subst ho
          obtain ⟨rfl, rfl, rfl⟩ := hk
          exact ⟨by rw [hN]; rfl, hn, by simpa using hd, htb⟩
        | succ k =>
          have := h2 k o' cs' t' st' (by simpa using ho) (by simpa using hk)
          rw [hsh] at this
          simpa [putK] using this
      · cases k with
        | zero => simp at hk
        | succ k =>
          obtain ⟨a1, a2, N', cs', t', a3, a4⟩ := h3 k o' j c (by simpa using ho) (by simpa using hk)
          rw [hsh] at a2 a3
          refine ⟨a1, a2, N', cs', t', ?_, by simpa [putK] using a4⟩
          rcases a3 with a3 | ⟨k', o'', e1, e2, e3, e4⟩
          · rcases List.mem_append.1 a3 with a3 | a3
            · exact .inl a3
            · rw [List.mem_singleton] at a3
              injection a3 with b1 b2 b3 b4 b5
              refine .inr ⟨0, o, by omega, rfl, by rw [b2]; exact hN, ?_⟩
              rw [b3, b4, b5]; rfl
          · exact .inr ⟨k' + 1, o'', by omega, by simpa using e2, e3, by simpa using e4⟩
      · intro w hS
        have := h4 w hS
        simpa [putK, newsK, hN] using this
    · obtain ⟨ks, hl, h1, h2, h3, h4⟩ := ih _ _ _ h
      refine ⟨.sto p.j c :: ks, by simp [hl], fun k o' v' ho hk => ?_, fun k o' cs t st ho hk => ?_, fun k o' j c' ho hk => ?_, by simpa [putK, newsK] using h4⟩
      · cases k with
        | zero => simp at hk
        | succ k => simpa [putK] using h1 k o' v' (by simpa using ho) (by simpa using hk)
      · cases k with
        | zero => simp at hk
        | succ k =>
          have := h2 k o' cs t st (by simpa using ho) (by simpa using hk)
          rw [hsh] at this
          simpa [putK] using this
      · cases k with
        | zero =>
          simp only [List.getElem?_cons_zero, Option.some.injEq, Knd.sto.injEq] at ho hk
          subst ho
          obtain ⟨rfl, rfl⟩ := hk
          refine ⟨hdn, hptb, p.N, p.cs, p.t, .inl ?_, by simpa using hst⟩
          have : (⟨p.j, p.N, p.cs, p.t, some (off + 0, c)⟩ : Pend) = p := by cases p; simp only at hps; rw [hps]; rfl
          rw [this]
          exact hp
        | succ k =>
          obtain ⟨a1, a2, N, cs, t, a3, a4⟩ := h3 k o' j c' (by simpa using ho) (by simpa using hk)
          rw [hsh] at a2 a3
          refine ⟨a1, a2, N, cs, t, a3.imp id ?_, by simpa [putK] using a4⟩
          rintro ⟨k', o'', e1, e2, e3, e4⟩
          exact ⟨k' + 1, o'', by omega, by simpa using e2, e3, by simpa using e4⟩
theorem putK_size (b : Act) (p : Oper × Knd) : (putK b p).tmps.size = b.tmps.size := by
  unfold putK
  split
  · cases p.1.dst <;> simp [Act.put]
  · rfl
theorem putK_defers (b : Act) (p : Oper × Knd) : (putK b p).defers = b.defers := by
  unfold putK
  split
  · cases p.1.dst <;> rfl
  · rfl
theorem put_slot (b : Act) (dst : Option Tmp) (v : Value) {t : Tmp} (h : dst ≠ some t) : (b.put dst v).tmps[t]? = b.tmps[t]? := by
  cases dst with
  | none => rfl
  | some d =>
    simp only [Act.put]
    exact Array.getElem?_setIfInBounds_ne fun e => h (by rw [e])
theorem put_at (b : Act) (d : Tmp) (v : Value) : (b.put (some d) v).tmps[d]? = if d < b.tmps.size then some v else none := by
  simp only [Act.put]
  rw [Array.getElem?_setIfInBounds_self]
theorem foldK_size (L : List (Oper × Knd)) : ∀ b : Act, (L.foldl putK b).tmps.size = b.tmps.size ∧ (L.foldl putK b).defers = b.defers := by
  induction L with
  | nil => exact fun b => ⟨rfl, rfl⟩
  | cons p L ih =>
    intro b
    rw [List.foldl_cons]
    exact ⟨(ih _).1.trans (putK_size b p), (ih _).2.trans (putK_defers b p)⟩
theorem foldK_slot (t : Tmp) (L : List (Oper × Knd)) : ∀ b : Act, (∀ p ∈ L, ∀ v, p.2 = .det v → p.1.dst ≠ some t) → (L.foldl putK b).tmps[t]? = b.tmps[t]? := by
  induction L with
  | nil => intro b _; rfl
  | cons p L ih =>
    intro b h
    rw [List.foldl_cons, ih _ fun q hq => h q (List.mem_cons_of_mem _ hq)]
    unfold putK
    split
    · rename_i v hv
      exact put_slot b _ _ (h p List.mem_cons_self v hv)
    · rfl
theorem foldK_at (L : List (Oper × Knd)) (b : Act) {k : Nat} {o : Oper} {v : Value} {d : Tmp} (hk : L[k]? = some (o, .det v)) (hd : o.dst = some d) (h : ∀ j p, k < j → L[j]? = some p → p.1.dst ≠ some d) :
    (L.foldl putK b).tmps[d]? = if d < b.tmps.size then some v else none := by
  have hkl := (List.getElem?_eq_some_iff.1 hk).1
  have e : L = L.take k ++ (o, .det v) :: L.drop (k + 1) := by
    rw [← (List.getElem?_eq_some_iff.1 hk).2, ← List.drop_eq_getElem_cons hkl, List.take_append_drop]
  rw [e, List.foldl_append, List.foldl_cons, foldK_slot d _ _ fun p hp v' _ => ?_]
  · show ((List.foldl putK b (List.take k L)).put o.dst v).tmps[d]? = _
    rw [hd, put_at, (foldK_size _ _).1]
  · obtain ⟨j, hj, rfl⟩ := List.mem_iff_getElem.1 hp
    rw [List.length_drop] at hj
    rw [List.getElem_drop]
    exact h (k + 1 + j) _ (by omega) (List.getElem?_eq_getElem (by omega))
/-- The blocks' pointers are put. -/
def putNews (G : Nat → Nat) : Nat → List (Oper × Knd) → Act → Act
  | _, [], b => b
  | off, p :: L, b => putNews G (off + 1) L (match p.2 with
    | .new _ _ _ => b.put p.1.dst (.pointer (some ⟨G off, 0, none⟩))
    | _ => b)
theorem putNews_size (G : Nat → Nat) (L : List (Oper × Knd)) : ∀ (off : Nat) (b : Act), (putNews G off L b).tmps.size = b.tmps.size ∧ (putNews G off L b).defers = b.defers := by
  induction L with
  | nil => exact fun _ b => ⟨rfl, rfl⟩
  | cons p L ih =>
    intro off b
    unfold putNews
    obtain ⟨h1, h2⟩ := ih (off + 1) (match p.2 with
      | .new _ _ _ => b.put p.1.dst (.pointer (some ⟨G off, 0, none⟩))
      | _ => b)
    rw [h1, h2]
    split
    · cases p.1.dst <;> simp [Act.put]
    · exact ⟨rfl, rfl⟩
theorem putNews_slot (G : Nat → Nat) (t : Tmp) (L : List (Oper × Knd)) : ∀ (off : Nat) (b : Act), (∀ p ∈ L, ∀ cs tt st, p.2 = .new cs tt st → p.1.dst ≠ some t) → (putNews G off L b).tmps[t]? = b.tmps[t]? := by
  induction L with
  | nil => exact fun _ b _ => rfl
  | cons p L ih =>
    intro off b h
    unfold putNews
    rw [ih _ _ fun q hq => h q (List.mem_cons_of_mem _ hq)]
    split
    · rename_i c tt st hc
      exact put_slot b _ _ (h p List.mem_cons_self c tt st hc)
    · rfl
theorem putNews_at (G : Nat → Nat) (L : List (Oper × Knd)) : ∀ (off : Nat) (b : Act) {k : Nat} {o : Oper} {cs : Array Value} {tt : TypeId} {st : Option (Nat × Array Value)} {d : Tmp}, L[k]? = some (o, .new cs tt st) → o.dst = some d → (∀ j p, k < j → L[j]? = some p → p.1.dst ≠ some d) →
    (putNews G off L b).tmps[d]? = if d < b.tmps.size then some (.pointer (some ⟨G (off + k), 0, none⟩)) else none := by
  induction L with
  | nil => intro off b k o cs tt st d hk; simp at hk
  | cons p L ih =>
    intro off b k o cs tt st d hk hd h
    cases k with
    | zero =>
      simp only [List.getElem?_cons_zero, Option.some.injEq] at hk
      subst hk
      unfold putNews
      rw [putNews_slot G d L _ _ fun q hq _ _ _ _ => ?_]
      · show (b.put o.dst (.pointer (some ⟨G off, 0, none⟩))).tmps[d]? = _
        rw [hd, put_at]; rfl
      · obtain ⟨j, hj, rfl⟩ := List.mem_iff_getElem.1 hq
        exact h (j + 1) _ (by omega) (by simp [List.getElem?_eq_getElem hj])
    | succ k =>
      unfold putNews
      have := ih (off + 1) (match p.2 with
        | .new _ _ _ => b.put p.1.dst (.pointer (some ⟨G off, 0, none⟩))
        | _ => b) (k := k) (by simpa using hk) hd (fun j q hj hq => h (j + 1) q (by omega) (by simpa using hq))
      rw [this, show off + 1 + k = off + (k + 1) by omega]
      congr 1
      split
      · cases p.1.dst <;> simp [Act.put]
      · rfl
theorem endG_open {K : Act → World → Prop} {n0 : Nat} {w : World} (G : Nat → Nat) (L : List (Oper × Knd)) : ∀ (off : Nat) (av : List Nat) (b : Act), endG K n0 (newsK off L) av b w →
    (∀ k o cs t st, L[k]? = some (o, .new cs t st) → (∃ d, o.dst = some d) ∧ w.heap[G (off + k)]? = some (.cells (contE cs st) t (0, 0)) ∧ n0 ≤ G (off + k) ∧ G (off + k) ∉ av) →
    (∀ k k' o o' cs t st cs' t' st', k < k' → L[k]? = some (o, .new cs t st) → L[k']? = some (o', .new cs' t' st') → G (off + k') ≠ G (off + k)) → K (putNews G off L b) w := by
  induction L with
  | nil => intro off av b h _ _; exact h
  | cons p L ih =>
    intro off av b h h1 h2
    obtain ⟨o, kd⟩ := p
    have step : ∀ (b' : Act), putNews G off ((o, kd) :: L) b = putNews G (off + 1) L b' → newsK off ((o, kd) :: L) = newsK (off + 1) L → b' = b → K (putNews G off ((o, kd) :: L) b) w := by
      intro b' e1 e2 e3
      rw [e1, e3]
      rw [e2] at h
      refine ih (off + 1) av b h (fun k o' cs t st hk => ?_) (fun k k' o o' cs t st cs' t' st' hlt hk hk' => ?_)
      · have := h1 (k + 1) o' cs t st (by simpa using hk)
        rwa [show off + (k + 1) = off + 1 + k by omega] at this
      · have := h2 (k + 1) (k' + 1) o o' cs t st cs' t' st' (by omega) (by simpa using hk) (by simpa using hk')
        rwa [show off + (k + 1) = off + 1 + k by omega, show off + (k' + 1) = off + 1 + k' by omega] at this
    cases kd with
    | det v => exact step b rfl (by simp [newsK]) rfl
    | sto j c => exact step b rfl (by simp [newsK]) rfl
    | new cs t st =>
      obtain ⟨⟨d, hd⟩, hb, hn, hav⟩ := h1 0 o cs t st rfl
      have e : newsK off ((o, Knd.new cs t st) :: L) = ⟨off, d, cs, t, st⟩ :: newsK (off + 1) L := by
        simp [newsK, hd]
      rw [e] at h
      have h' := h (G off) hav hb hn
      have := ih (off + 1) (G off :: av) _ h' (fun k o' cs' t' st' hk => ?_) (fun k k' o o' cs t st cs' t' st' hlt hk hk' => ?_)
      · show K (putNews G (off + 1) L (b.put o.dst _)) w
        rw [hd]
        exact this
      · have h3 := h1 (k + 1) o' cs' t' st' (by simpa using hk)
        have h4 := h2 0 (k + 1) o o' cs t st cs' t' st' (by omega) rfl (by simpa using hk)
        rw [show off + (k + 1) = off + 1 + k by omega] at h3 h4
        refine ⟨h3.1, h3.2.1, h3.2.2.1, ?_⟩
        rw [List.mem_cons]
        rintro (e | e)
        · exact h4 e
        · exact h3.2.2.2 e
      · have := h2 (k + 1) (k' + 1) o o' cs t st cs' t' st' (by omega) (by simpa using hk) (by simpa using hk')
        rwa [show off + (k + 1) = off + 1 + k by omega, show off + (k' + 1) = off + 1 + k' by omega] at this
/-- THE REGION: its first m operations in their own order, each shown once; then the last ones. -/
theorem seq_ {id : Nat} {a : Act} {w : World} (m : Nat) (n0 : Nat) (tb : List (Nat × Nat)) (hm : P.follows .mixedOrders = true) (hc : allB .any ops m tb = true) (hSw : S w.drew) (hS : ∀ w w1, S w → Below n0 w w1 → S w1) (hn0 : ∀ w, S w → n0 ≤ w.heap.size)
    (h : wpSeq P ops S (fun a w => wpAnyLast P .any ops Q (fun _ => True) [] (ops.size - m) (bm ops.size (2 ^ m - 1)) a w) n0 tb (ops.toList.take m) 0 a []) : (Code.region id ops true).wp P Q a w := by
  have hle := allB_le hc
  obtain ⟨ks, hl, h1, h2, h5, h3⟩ := wpSeq_vals _ 0 a [] h
  have hl' : ks.length = m := by rw [hl, List.length_take]; simp; omega
  have hos : ∀ i, i < m → (ops.toList.take m)[i]? = ops[i]? := by
    intro i hi
    rw [List.getElem?_take, if_pos hi]; simp
  have hks : ∀ i, i < m → ks[i]? = some (ks.getD i (.det undef)) := by
    intro i hi
    rw [List.getD_eq_getElem?_getD, List.getElem?_eq_getElem (by omega)]; rfl
  have hzl : ((ops.toList.take m).zip ks).length = m := by simp [hl']; omega
  have hz : ∀ i oi, i < m → ops[i]? = some oi → ((ops.toList.take m).zip ks)[i]? = some (oi, ks.getD i (.det undef)) := by
    intro i oi hi hoi
    rw [List.getElem?_zip_eq_some]
    exact ⟨(hos i hi).trans hoi, hks i hi⟩
  have hzo : ∀ i p, ((ops.toList.take m).zip ks)[i]? = some p → i < m ∧ ops[i]? = some p.1 ∧ ks.getD i (.det undef) = p.2 := by
    intro i p hp
    have hi : i < m := by have := (List.getElem?_eq_some_iff.1 hp).1; omega
    rw [List.getElem?_zip_eq_some] at hp
    refine ⟨hi, (hos i hi).symm.trans hp.1, ?_⟩
    exact Option.some.inj ((hks i hi).symm.trans hp.2)
  -- a slot that an operation looks at, but for a block's
  have hdet : ∀ (G : Nat → Nat) i oi, i < m → ops[i]? = some oi → ∀ t, t ∈ oi.looksAt ops → (∀ j oj, j < m → ops[j]? = some oj → oj.dst = some t → isNew oj = false) → ((((ops.toList.take m).zip ks).take i).foldl putK a).tmps[t]? = (putVals ops (fun i => valOf G i (ks.getD i (.det undef))) a m).tmps[t]? := by
    intro G i oi hi hoi t ht hnn
    have sp := putVals_spec hc (fun i => valOf G i (ks.getD i (.det undef))) a m (Nat.le_refl m)
    by_cases hex : ∃ j oj, j < m ∧ ops[j]? = some oj ∧ oj.dst = some t
    · obtain ⟨j, oj, hj, hoj, hdj⟩ := hex
      obtain ⟨hlt, hlk⟩ := allB_at hc hi hoi
      obtain ⟨_, e, he, hb, hon⟩ := (hlk j oj t hj hoj hdj).2 ht
      have hnj := hnn j oj hj hoj hdj
      have hji : j < i := by rw [← hon]; exact hlt e he hb
      rw [sp.2.2.2 j oj t hj hoj hdj]
      cases hkj : ks.getD j (.det undef) with
      | new cs tt st =>
        have := (h2 j oj cs tt st ((hos j hj).trans hoj) (by rw [hks j hj, hkj])).2.1
        rw [hnj] at this
        cases this
      | sto j' c =>
        have := (h5 j oj j' c ((hos j hj).trans hoj) (by rw [hks j hj, hkj])).1
        rw [hdj] at this
        cases this
      | det v =>
        refine foldK_at _ _ (k := j) (o := oj) (v := v) ?_ hdj fun k p hk hp => ?_
        · rw [List.getElem?_take, if_pos hji, hz j oj hj hoj, hkj]
        · have hki : k < i := by
            have := (List.getElem?_eq_some_iff.1 hp).1
            rw [List.length_take] at this; omega
          rw [List.getElem?_take, if_pos hki] at hp
          obtain ⟨hkm, hok, _⟩ := hzo k p hp
          exact ((allB_at hc hkm hok).2 j oj t hj hoj hdj).1 (by omega)
    · rw [sp.2.2.1 t fun j oj hj hoj hdj => absurd ⟨j, oj, hj, hoj, hdj⟩ hex]
      refine foldK_slot t _ _ fun p hp v _ hd => hex ?_
      obtain ⟨k, hk, rfl⟩ := List.mem_iff_getElem.1 hp
      rw [List.length_take] at hk
      rw [List.getElem_take] at hd
      obtain ⟨hkm, hok, _⟩ := hzo k _ (List.getElem?_eq_getElem (by omega))
      exact ⟨k, _, hkm, hok, hd⟩
  -- an operation that writes a slot looks at no block's
  have hno : ∀ i oi, i < m → ops[i]? = some oi → oi.dst.isSome = true → ∀ t, t ∈ oi.looksAt ops → ∀ j oj, j < m → ops[j]? = some oj → oj.dst = some t → isNew oj = false := by
    intro i oi hi hoi hs t ht j oj hj hoj hdj
    rcases (((allB_at hc hi hoi).2 j oj t hj hoj hdj).2 ht).1 with h | h
    · exact h
    · obtain ⟨_, _, ⟨o, ho, hdn, _⟩, _⟩ := allB_tb hc h
      rw [hoi] at ho
      obtain rfl := Option.some.inj ho
      rw [hdn] at hs
      cases hs
  have hKinds : Kinds P ops S m tb a (fun i => ks.getD i (.det undef)) n0 := by
    refine ⟨fun G i oi v hi hoi hk => ?_, fun G i oi cs t st hi hoi hk => ?_, fun G i oi j c hi hoi hk => ?_, fun i oi hi hoi hdn => ?_⟩
    · obtain ⟨hs, _, hd⟩ := h1 i oi v ((hos i hi).trans hoi) (by rw [hks i hi, hk])
      obtain ⟨hex, hwa⟩ := looks_congr (fun cs b => Region.noSelect_spec (allB_select hc) i oi cs b hoi) (fun t ht => hdet G i oi hi hoi t ht (hno i oi hi hoi hs t ht))
      unfold Does at *
      rw [← hex, ← hwa]
      exact hd
    · obtain ⟨hs, _, hd, htb⟩ := h2 i oi cs t st ((hos i hi).trans hoi) (by rw [hks i hi, hk])
      obtain ⟨hex, hwa⟩ := looks_congr (fun cs b => Region.noSelect_spec (allB_select hc) i oi cs b hoi) (fun t ht => hdet G i oi hi hoi t ht (hno i oi hi hoi hs t ht))
      rw [Nat.zero_add] at htb
      refine ⟨hs, ?_, htb⟩
      unfold News at *
      rw [← hex, ← hwa]
      exact hd
    · obtain ⟨hdn, hjtb, N, cs, t, hor, hst⟩ := h5 i oi j c ((hos i hi).trans hoi) (by rw [hks i hi, hk])
      rw [Nat.zero_add] at hjtb hor
      rcases hor with hor | ⟨k', o', e1, e2, e3, e4⟩
      · cases hor
      have e1 : k' = j := by omega
      subst e1
      have hjm : k' < m := (allB_tb hc hjtb).1
      rw [hos k' hjm] at e2
      rw [hks k' hjm] at e4
      have e4 := Option.some.inj e4
      refine ⟨hdn, hjtb, cs, t, e4, ?_⟩
      have sp := putVals_spec hc (fun i => valOf G i (ks.getD i (.det undef))) a m (Nat.le_refl m)
      obtain ⟨hex, hwa⟩ := looks_congr (a := ((((ops.toList.take m).zip ks).take i).foldl putK a).put (some N) (.pointer (some ⟨G k', 0, none⟩))) (b := putVals ops (fun i => valOf G i (ks.getD i (.det undef))) a m) (fun cs b => Region.noSelect_spec (allB_select hc) i oi cs b hoi) (fun t' ht' => by
        by_cases htN : t' = N
        · subst htN
          rw [put_at, (foldK_size _ _).1, sp.2.2.2 k' o' t' hjm e2 e3, e4]
          rfl
        · rw [put_slot _ _ _ (fun e => htN (Option.some.inj e).symm)]
          refine hdet G i oi hi hoi t' ht' fun j' oj' hj' hoj' hdj' => ?_
          rcases (((allB_at hc hi hoi).2 j' oj' t' hj' hoj' hdj').2 ht').1 with h | h
          · exact h
          · have := (allB_tb hc hjtb).2.2.2 j' h
            subst this
            rw [e2] at hoj'
            obtain rfl := Option.some.inj hoj'
            rw [e3] at hdj'
            exact absurd (Option.some.inj hdj').symm htN)
      have := hst (G k')
      unfold Stores at *
      rw [← hex, ← hwa]
      exact this
    · cases hki : ks.getD i (.det undef) with
      | det v =>
        have := (h1 i oi v ((hos i hi).trans hoi) (by rw [hks i hi, hki])).1
        rw [hdn] at this
        cases this
      | new cs t st =>
        have := (h2 i oi cs t st ((hos i hi).trans hoi) (by rw [hks i hi, hki])).1
        rw [hdn] at this
        cases this
      | sto j c => exact ⟨j, c, rfl⟩
  refine wp_region_any hm ?_
  suffices key : wpAny P .any ops Q (m + (ops.size - m)) (Array.replicate ops.size false) a w.drew by
    rw [show m + (ops.size - m) = ops.size by omega] at key
    exact key
  refine all_go (Q := Q) hc a (fun i => ks.getD i (.det undef)) n0 hS hn0 hKinds (fun G w hSw hb hap => ?_) m (Array.replicate ops.size false) (fun _ => 0) a w.drew (by simp) ?_ ?_ hSw
  · have h4 := endG_open G _ 0 [] _ (by simpa using h3 w hSw) (fun k o cs t st hk => ?_) (fun k k' o o' cs t st cs' t' st' hlt hk hk' => ?_)
    · have e : putNews G 0 ((ops.toList.take m).zip ks) (((ops.toList.take m).zip ks).foldl putK a) = putVals ops (fun i => valOf G i (ks.getD i (.det undef))) a m := by
        have sp := putVals_spec hc (fun i => valOf G i (ks.getD i (.det undef))) a m (Nat.le_refl m)
        have z1 := putNews_size G ((ops.toList.take m).zip ks) 0 (((ops.toList.take m).zip ks).foldl putK a)
        have z2 := foldK_size ((ops.toList.take m).zip ks) a
        have hslot : ∀ t : Tmp, (putNews G 0 ((ops.toList.take m).zip ks) (((ops.toList.take m).zip ks).foldl putK a)).tmps[t]? = (putVals ops (fun i => valOf G i (ks.getD i (.det undef))) a m).tmps[t]? := by
          intro t
          by_cases hex : ∃ j oj, j < m ∧ ops[j]? = some oj ∧ oj.dst = some t
          · obtain ⟨j, oj, hj, hoj, hdj⟩ := hex
            have honly : ∀ k p, ((ops.toList.take m).zip ks)[k]? = some p → k ≠ j → p.1.dst ≠ some t := by
              intro k p hp hkj
              obtain ⟨hkm, hok, _⟩ := hzo k p hp
              exact ((allB_at hc hkm hok).2 j oj t hj hoj hdj).1 (Ne.symm hkj)
            rw [sp.2.2.2 j oj t hj hoj hdj]
            cases hkj : ks.getD j (.det undef) with
            | new cs tt st =>
              rw [putNews_at G _ 0 _ (k := j) (o := oj) (cs := cs) (tt := tt) (st := st) (d := t) (by rw [hz j oj hj hoj, hkj]) hdj (fun k p hk hp => honly k p hp (by omega)), z2.1, Nat.zero_add]
              rfl
            | sto j' c =>
              have := (h5 j oj j' c ((hos j hj).trans hoj) (by rw [hks j hj, hkj])).1
              rw [hdj] at this
              cases this
            | det v =>
              rw [putNews_slot G t _ _ _ fun p hp cs tt st hc' => ?_]
              · exact foldK_at _ _ (k := j) (v := v) (by rw [hz j oj hj hoj, hkj]) hdj (fun k p hk hp => honly k p hp (by omega))
              · obtain ⟨k, hk, rfl⟩ := List.mem_iff_getElem.1 hp
                have hp2 := List.getElem?_eq_getElem hk
                refine honly k _ hp2 ?_
                rintro rfl
                obtain ⟨_, _, hk3⟩ := hzo k _ hp2
                rw [hkj] at hk3
                rw [← hk3] at hc'
                cases hc'
          · rw [sp.2.2.1 t fun j oj hj hoj hdj => absurd ⟨j, oj, hj, hoj, hdj⟩ hex]
            have hno : ∀ p ∈ (ops.toList.take m).zip ks, p.1.dst ≠ some t := by
              intro p hp hd
              obtain ⟨k, hk, rfl⟩ := List.mem_iff_getElem.1 hp
              obtain ⟨hkm, hok, _⟩ := hzo k _ (List.getElem?_eq_getElem hk)
              exact hex ⟨k, _, hkm, hok, hd⟩
            rw [putNews_slot G t _ _ _ fun p hp _ _ _ _ => hno p hp, foldK_slot t _ _ fun p hp _ _ => hno p hp]
        generalize putNews G 0 ((ops.toList.take m).zip ks) (((ops.toList.take m).zip ks).foldl putK a) = x at z1 hslot ⊢
        have s2 := sp.2.1
        generalize putVals ops (fun i => valOf G i (ks.getD i (.det undef))) a m = y at s2 hslot ⊢
        have hde : x.defers = y.defers := z1.2.trans (z2.2.trans s2.symm)
        cases x with | mk xt xd => cases y with | mk yt yd =>
        simp only at hslot hde
        subst hde
        congr 1
        exact Array.ext_getElem? hslot
      rw [e] at h4
      exact wpAny_of_last _ _ _ _ h4
    · obtain ⟨hkm, hok, hk3⟩ := hzo k _ hk
      have hb' := hb k cs t st hkm hk3
      have hs := (h2 k o cs t st ((hos k hkm).trans hok) (by rw [hks k hkm, hk3])).1
      exact ⟨Option.isSome_iff_exists.1 hs, by rw [Nat.zero_add]; exact hb'.1, by rw [Nat.zero_add]; exact hb'.2, by simp⟩
    · obtain ⟨hkm, _, hk3⟩ := hzo k _ hk
      obtain ⟨hkm', _, hk3'⟩ := hzo k' _ hk'
      rw [Nat.zero_add, Nat.zero_add]
      exact hap k' k cs' t' st' cs t st hkm' hkm (by omega) hk3' hk3
  · unfold unl
    rw [Array.toList_replicate, List.take_replicate, List.countP_replicate]
    simp
    omega
  · have sp := putVals_spec hc (fun i => valOf (fun _ => 0) i (ks.getD i (.det undef))) a m (Nat.le_refl m)
    have hf : ∀ i, (Array.replicate ops.size false).getD i false = false := by
      intro i
      by_cases hi : i < ops.size
      · simp [Array.getD_eq_getD_getElem?, hi]
      · simp [Array.getD_eq_getD_getElem?, hi]
    refine ⟨sp.1.symm, sp.2.1.symm, fun t ht => (sp.2.2.1 t fun i oi him hoi hd => ?_).symm, fun i _ => hf i, fun i oi _ hl' => ?_, fun i cs t st _ hl' => ?_, fun i j cs t st cs' t' st' _ _ _ hl' => ?_⟩
    · have := ht i oi him hoi hd
      rw [hf] at this
      cases this
    · rw [hf] at hl'; cases hl'
    · rw [hf] at hl'; cases hl'
    · rw [hf] at hl'; cases hl'
/-! ### its steps, by the operations' numbers -/
def wpAt (P : Program) (ops : Array Oper) (S : World → Prop) (K : Act → World → Prop) (n0 : Nat) (tb : List (Nat × Nat)) (m i : Nat) (a : Act) (ps : List Pend) : Prop := wpSeq P ops S K n0 tb ((ops.toList.take m).drop i) i a ps
theorem drop_at {m i : Nat} {o : Oper} (hi : ops[i]? = some o) (him : i < m) : (ops.toList.take m).drop i = o :: (ops.toList.take m).drop (i + 1) := by
  obtain ⟨h1, h2⟩ := Array.getElem?_eq_some_iff.1 hi
  have hl : i < (ops.toList.take m).length := by rw [List.length_take]; simp; omega
  rw [List.drop_eq_getElem_cons hl]
  simp [h2]
theorem region_ {id : Nat} {a : Act} {w : World} (m : Nat) (n0 : Nat) (tb : List (Nat × Nat)) (hm : P.follows .mixedOrders = true) (hc : allB .any ops m tb = true) (hSw : S w.drew) (hS : ∀ w w1, S w → Below n0 w w1 → S w1) (hn0 : ∀ w, S w → n0 ≤ w.heap.size)
    (h : wpAt P ops S (fun a w => wpAnyLast P .any ops Q (fun _ => True) [] (ops.size - m) (bm ops.size (2 ^ m - 1)) a w) n0 tb m 0 a []) : (Code.region id ops true).wp P Q a w := seq_ m n0 tb hm hc hSw hS hn0 h
section
variable {K : Act → World → Prop} {n0 m i j : Nat} {tb : List (Nat × Nat)} {ps : List Pend} {o : Oper} {a a' : Act} {N : Tmp}
theorem atV_ (v : Value) (hi : ops[i]? = some o) (hd : o.dst = some N) (hn : (!isNew o && decide (i < m)) = true) (hj : i + 1 = j) (hw : Region.wanted o (yielded ops a.tmps) = true) (hy : ∀ w, S w → (execOp a.eval o).run P w = .ok (.value v) w)
    (ha : a.put (some N) v = a') (h : wpAt P ops S K n0 tb m j a' ps) : wpAt P ops S K n0 tb m i a ps := by
  simp only [Bool.and_eq_true, Bool.not_eq_true', decide_eq_true_eq] at hn
  subst hj
  unfold wpAt
  rw [drop_at hi hn.2]
  exact .inl ⟨v, by rw [hd]; rfl, hn.1, .inr ⟨hw, fun w hS => .inl (hy w hS)⟩, by rw [hd, ha]; exact h⟩
theorem atO_ (hi : ops[i]? = some o) (hd : o.dst = some N) (hn : (!isNew o && decide (i < m)) = true) (hj : i + 1 = j) (hw : Region.wanted o (yielded ops a.tmps) = false)
    (ha : a.put (some N) undef = a') (h : wpAt P ops S K n0 tb m j a' ps) : wpAt P ops S K n0 tb m i a ps := by
  simp only [Bool.and_eq_true, Bool.not_eq_true', decide_eq_true_eq] at hn
  subst hj
  unfold wpAt
  rw [drop_at hi hn.2]
  exact .inl ⟨undef, by rw [hd]; rfl, hn.1, .inl ⟨hw, rfl⟩, by rw [hd, ha]; exact h⟩
theorem atN_ (cs : Array Value) (t : TypeId) (st : Option (Nat × Array Value)) (hi : ops[i]? = some o) (hd : o.dst = some N) (hn : (isNew o && decide (i < m) && (st.all fun p => tb.contains (i, p.1))) = true) (hj : i + 1 = j) (hw : Region.wanted o (yielded ops a.tmps) = true)
    (hy : ∀ w, S w → (execOp a.eval o).run P w = .ok (.value (.pointer (some ⟨w.heap.size, 0, none⟩))) (w.alloc (.cells cs t (0, 0)))) (h : wpAt P ops S K n0 tb m j a (ps ++ [⟨i, N, cs, t, st⟩])) : wpAt P ops S K n0 tb m i a ps := by
  simp only [Bool.and_eq_true, decide_eq_true_eq] at hn
  subst hj
  unfold wpAt
  rw [drop_at hi hn.1.2]
  refine .inr (.inl ⟨N, cs, t, st, hd, hn.1.1, ⟨hw, hy⟩, fun s c e => ?_, h⟩)
  subst e
  exact List.contains_iff_mem.1 hn.2
theorem atC_ (v : Value) {f : FuncId} {fn : Func} {zs : Array Operand} {ts : Array TypeId} (hi : ops[i]? = some o) (hop : o.op = .call { callee := .value (.func f), args := zs, argTypes := ts }) (hf : P.funcs[f]? = some fn) (hd : o.dst = some N) (hn : (!isNew o && decide (i < m)) = true) (hj : i + 1 = j) (hw : Region.wanted o (yielded ops a.tmps) = true)
    (hname : (fn.name == "runtime.NumGoroutine") = false) (hb : fn.body.isSome = true) (args : Array Value) (hargs : zs.map a.eval = args) (hcall : ∀ w, S w → Calls P f args w fun e w1 => e = .returned v ∧ Below w.heap.size w w1)
    (ha : a.put (some N) v = a') (h : wpAt P ops S K n0 tb m j a' ps) : wpAt P ops S K n0 tb m i a ps := by
  simp only [Bool.and_eq_true, Bool.not_eq_true', decide_eq_true_eq] at hn
  subst hj
  unfold wpAt
  rw [drop_at hi hn.2]
  refine .inl ⟨v, by rw [hd]; rfl, hn.1, .inr ⟨hw, fun w hS => .inr ⟨f, args, ?_, hcall w hS⟩⟩, by rw [hd, ha]; exact h⟩
  have he := enters_ hf hname hb args w
  unfold execOp
  simp [hop, resolve, Deferred.ofValue, invoke, Act.eval, hargs, he]
/-- The store into the block that is the k-th of those made. -/
theorem atS_ (k : Nat) {p : Pend} {c : Array Value} (hp : ps[k]? = some p) (hst : p.st = some (i, c)) (hi : ops[i]? = some o) (hd : o.dst = none) (hn : (decide (i < m) && tb.contains (p.j, i)) = true) (hj : i + 1 = j)
    (hw : ∀ g, Region.wanted o (yielded ops (a.put (some p.N) (.pointer (some ⟨g, 0, none⟩))).tmps) = true)
    (hy : ∀ g w, S w → w.heap[g]? = some (.cells p.cs p.t (0, 0)) → n0 ≤ g → ∃ w1, (execOp (a.put (some p.N) (.pointer (some ⟨g, 0, none⟩))).eval o).run P w = .ok .skip w1 ∧ Mut g w w1 ∧ w1.heap[g]? = some (.cells c p.t (0, 0)))
    (h : wpAt P ops S K n0 tb m j a ps) : wpAt P ops S K n0 tb m i a ps := by
  simp only [Bool.and_eq_true, decide_eq_true_eq] at hn
  subst hj
  unfold wpAt
  rw [drop_at hi hn.1]
  exact .inr (.inr ⟨p, c, List.mem_of_getElem? hp, hst, hd, List.contains_iff_mem.1 hn.2, fun g => ⟨hw g, hy g⟩, h⟩)
theorem atEnd_ (h : ∀ w, S w → endG K n0 ps [] a w) : wpAt P ops S K n0 tb m m a ps := by
  unfold wpAt
  rw [List.drop_of_length_le (by rw [List.length_take]; omega)]
  exact h
end
/-- A cell that is there stays. -/
theorem cell_ {w w1 : World} {p : Addr} {v : Value} (hb : Below w.heap.size w w1) (h : w.cell? p = some v) : w1.cell? p = some v := (hb.cell (World.block_lt_of_cell? _ _ h)).trans h
end
end Go.Proofs.Ytldcckcljjlglaa.P

namespace Go.Proofs.Ytldcckcljjlglaa.P
open Go.RowKit Go.Proofs.YtldcckcljjlglaaW.PrintWords Go.Proofs.YtldcckcljjlglaaW.PrintLast Go.Proofs.YtldcckcljjlglaaW.PrintMore
attribute [local go_sem] max2_int min2_int max_two min_two max_three min_three max_four min_four   -- for this text's walks alone
set_option linter.unusedVariables false
set_option linter.unusedSimpArgs false

/-! ### spec_DesarguesOf: function 74 -/
abbrev TRs := S72
def tr (q : List TRs) (i : Int) : TRs := rd_T72 q i
def crossS (k : Nat) (a b : TRs) : Option (Int × Int × Int) := spec_CrossOf.f k a.f0 a.f1 a.f2 b.f0 b.f1 b.f2
def pairA (i : Nat) : Nat := if i = 2 then 1 else 0
def pairB (i : Nat) : Nat := if i = 0 then 1 else 2
def spec_DesarguesOf.l0 : Nat → List TRs → List TRs → Nat → Option (List TRs × Bool)
 | 0, _, _, _ => none
 | k + 1, q, out, i => if i < 3 then (crossS k (tr q (pairA i)) (tr q (pairB i))).bind fun t => (crossS k (tr q (3 + pairA i)) (tr q (3 + pairB i))).bind fun u => (spec_l26Equal.f k t.1 t.2.1 t.2.2 u.1 u.2.1 u.2.2).bind fun b => (if b = true then some ([], false) else (spec_CrossOf.f k t.1 t.2.1 t.2.2 u.1 u.2.1 u.2.2).bind fun c => if out.length < 1000000 then spec_DesarguesOf.l0 k q (out ++ [⟨c.1, c.2.1, c.2.2⟩]) (i + 1) else none) else some (out, true)
def onS (q : List TRs) (i : Int) : Option Bool := spec_AreOnOne.f (tr q i).f0 (tr q i).f1 (tr q i).f2 (tr q (i + 1)).f0 (tr q (i + 1)).f1 (tr q (i + 1)).f2 (tr q (i + 2)).f0 (tr q (i + 2)).f1 (tr q (i + 2)).f2
def spec_DesarguesOf.f (k : Nat) (l0 : List S80) : Option (List TRs × Bool) := (spec_l26Six.f k l0).bind fun s => if s.2 = true then (if s.1.length = 6 then (onS s.1 0).bind fun x => (if x = true then some ([], false) else (onS s.1 3).bind fun y => (if y = true then some ([], false) else spec_DesarguesOf.l0 k s.1 [] 0)) else none) else some ([], false)
theorem four_ (W : World) (o1 o2 o3 o4 : Obj) : ((((W.alloc o1).alloc o2).alloc o3).alloc o4).heap[W.heap.size]? = some o1 ∧ ((((W.alloc o1).alloc o2).alloc o3).alloc o4).heap[W.heap.size + 1]? = some o2 ∧ ((((W.alloc o1).alloc o2).alloc o3).alloc o4).heap[W.heap.size + 2]? = some o3 ∧ ((((W.alloc o1).alloc o2).alloc o3).alloc o4).heap[W.heap.size + 3]? = some o4 ∧ ((((W.alloc o1).alloc o2).alloc o3).alloc o4).heap.size = W.heap.size + 4 := by
 have e : ((((W.alloc o1).alloc o2).alloc o3).alloc o4).heap = (((W.heap.push o1).push o2).push o3).push o4 := rfl
 rw [e]
 refine ⟨?_, ?_, ?_, ?_, by simp⟩ <;> simp only [Array.getElem?_push, Array.size_push] <;> (repeat' (first | rfl | rw [if_pos (by omega)] | rw [if_neg (by omega)]))
/-- The table of pairs, block by block, from g on. -/
def PairsAt (W : World) (g : Nat) : Prop := (∀ i : Nat, i < 3 → W.cell? ⟨g + i, 0, none⟩ = some (.int .i64 (pairA i)) ∧ W.cell? ⟨g + i, 1, none⟩ = some (.int .i64 (pairB i)) ∧ W.cell? ⟨g + 3, i, none⟩ = some (.slice (some ⟨g + i, 0, none⟩) 2 2)) ∧ g + 4 ≤ W.heap.size
theorem PairsAt.to {W W' : World} {g : Nat} (h : PairsAt W g) (hs : W.heap.size ≤ W'.heap.size) (hb : ∀ k, g ≤ k → k < g + 4 → W'.heap[k]? = W.heap[k]?) : PairsAt W' g := by
 refine ⟨fun i hi => ?_, by have := h.2; omega⟩
 obtain ⟨h1, h2, h3⟩ := h.1 i hi
 have e : ∀ (b j : Nat), g ≤ b → b < g + 4 → W'.cell? ⟨b, j, none⟩ = W.cell? ⟨b, j, none⟩ := by
  intro b j hb1 hb2
  simp only [World.cell?, hb b hb1 hb2]
 exact ⟨(e _ _ (by omega) (by omega)).trans h1, (e _ _ (by omega) (by omega)).trans h2, (e _ _ (by omega) (by omega)).trans h3⟩
theorem pairs_made (W : World) : PairsAt ((((W.alloc (.cells #[.int .i64 0, .int .i64 1] 3)).alloc (.cells #[.int .i64 0, .int .i64 2] 3)).alloc (.cells #[.int .i64 1, .int .i64 2] 3)).alloc (.cells #[.slice (some ⟨W.heap.size, 0, none⟩) 2 2, .slice (some ⟨W.heap.size + 1, 0, none⟩) 2 2, .slice (some ⟨W.heap.size + 1 + 1, 0, none⟩) 2 2] 29)) W.heap.size := by
 obtain ⟨h1, h2, h3, h4, h5⟩ := four_ W (.cells #[.int .i64 0, .int .i64 1] 3) (.cells #[.int .i64 0, .int .i64 2] 3) (.cells #[.int .i64 1, .int .i64 2] 3) (.cells #[.slice (some ⟨W.heap.size, 0, none⟩) 2 2, .slice (some ⟨W.heap.size + 1, 0, none⟩) 2 2, .slice (some ⟨W.heap.size + 1 + 1, 0, none⟩) 2 2] 29)
 generalize ((((W.alloc (.cells #[.int .i64 0, .int .i64 1] 3)).alloc (.cells #[.int .i64 0, .int .i64 2] 3)).alloc (.cells #[.int .i64 1, .int .i64 2] 3)).alloc (.cells #[.slice (some ⟨W.heap.size, 0, none⟩) 2 2, .slice (some ⟨W.heap.size + 1, 0, none⟩) 2 2, .slice (some ⟨W.heap.size + 1 + 1, 0, none⟩) 2 2] 29)) = V at h1 h2 h3 h4 h5 ⊢
 refine ⟨fun i hi => ?_, by omega⟩
 have : i = 0 ∨ i = 1 ∨ i = 2 := by omega
 rcases this with rfl | rfl | rfl
 ·simp [World.cell?, h1, h4, pairA, pairB]
 ·simp [World.cell?, h2, h4, pairA, pairB]
 ·simp [World.cell?, h3, h4, pairA, pairB]
set_option maxHeartbeats 4000000 in
set_option maxRecDepth 100000 in
theorem spec_DesarguesOf.calls (k : Nat) (A0 : Option Addr) (c0 : Nat) (l0 : List S80) (r1 : List TRs) (r2 : Bool) (w : World) (hr0 : Kd.C k80 w A0 l0.length l0) (hc0 : l0.length ≤ c0) (h : spec_DesarguesOf.f k l0 = some (r1, r2)) :
  Calls Try.prog 74 #[.slice A0 l0.length c0] w fun e w' => ∃ v0_ : Value, e = .returned (.tuple #[v0_, .bool r2]) ∧ Kd.R k72 72 w' w.heap.size (fun _ => True) v0_ r1 ∧ Below w.heap.size w w' := by
 have HR := Aside0.mk hr0
 have HC := Aside0.mk hc0
 have HB := Aside0.mk (Below.refl w.heap.size w)
 unfold spec_DesarguesOf.f at h
 obtain ⟨⟨q, b⟩, hs, h⟩ := Option.bind_eq_some_iff.mp h
 have HA1 := Aside0.mk hs
 clear hr0 hc0 hs
 have hup := Try.underlying80
 have hut := Try.underlying72
 cases b with
 | false =>
  obtain ⟨rfl, rfl⟩ := Prod.mk.inj (Option.some.inj (show some (([] : List TRs), false) = some (r1, r2) from h))
  clear h
  go_enter Try.func74, Try.ntmps74
  go_wp2_with (first | (go_at_call 122; (with_reducible refine (spec_l26Six.calls k A0 c0 l0 q false _ (Kd.C_below HR.out HB.out) HC.out HA1.out).mono ?_); rintro e w1 ⟨v1, rfl, ho1, hb1⟩; obtain ⟨A1, c1, rfl⟩ := Kd.R_slice ho1; have HQ := Aside0.mk ho1; have m0_ := Aside0.mk (below_step HB.out hb1); clear HB ho1 hb1; have HB := m0_; clear m0_))
  generalize hw1 : w1 = W1 at HB HQ ⊢
  clear hw1
  refine region_ (S := fun w' => Below W1.heap.size W1 w') 26 W1.heap.size [] (by kernel_rfl) (by kernel_rfl) (below_drew (Below.refl _ _)) (fun _ _ h1 h2 => h1.trans h2) (fun _ h1 => h1.size) ?_
  iterate 26 (first
   | (refine atV_ (v := ?_) (a' := ?_) rfl rfl rfl rfl (by rfl) ?_ ?_ ?_; rotate_left 2; (· rintro w' hb'; go_simp; with_reducible rfl); (· simp only [Act.put, List.setIfInBounds_toArray, List.set_cons_zero, List.set_cons_succ, i64_w, i32_w]; rfl))
   | (refine atO_ (a' := ?_) rfl rfl rfl rfl (by rfl) ?_ ?_; rotate_left; (· simp only [Act.put, List.setIfInBounds_toArray, List.set_cons_zero, List.set_cons_succ, i64_w, i32_w]; rfl)))
  refine atEnd_ ?_
  intro w2 hb2
  refine done_ (by kernel_rfl) ?_
  have m0_ := Aside0.mk (below_then HB.out (below_size HB.out) hb2)
  clear HB hb2
  have HB := m0_
  clear m0_
  go_wp2_with (first | ((with_reducible refine gate_dst (N := 42) rfl ?_); refine Kd.R_lit k72 _ 72 ?hg (N := 42) ?hd (xs := ([] : List TRs)) (inner := []) (ok := fun _ => True) (okp := fun _ => True) ?hr ?hp (fun _ hk => hk) trivial (Below.refl _ _) (Nat.le_refl _) (by simp) ?_; (case hd => rfl); (case hg => rfl); (case hr => first | (go_simp; done) | (go_simp; rfl)); (case hp => exact (Reps.none _ _)); intro v9 w9 ho9 hb9 hg_ hnew_; have HO9 := Aside0.mk (Kd.R_lower ho9 (below_size HB.out)); have HB9 := Aside0.mk (below_step HB.out hb9); clear hg_ hnew_ ho9 hb9))
  go_ret2
  exact ⟨_, rfl, HO9.out, HB9.out⟩
 | true =>
  rw [if_pos rfl] at h
  by_cases h6 : q.length = 6
  case neg => rw [if_neg h6] at h; cases h
  rw [if_pos h6] at h
  obtain ⟨x, hx, h⟩ := Option.bind_eq_some_iff.mp h
  have H6 := Aside0.mk h6
  have HAX := Aside0.mk (show spec_AreOnOne.f (rd_T72 q 0).f0 (rd_T72 q 0).f1 (rd_T72 q 0).f2 (rd_T72 q 1).f0 (rd_T72 q 1).f1 (rd_T72 q 1).f2 (rd_T72 q 2).f0 (rd_T72 q 2).f1 (rd_T72 q 2).f2 = some x from hx)
  have HH := Aside0.mk h
  clear h6 hx h
  go_enter Try.func74, Try.ntmps74
  go_wp2_with (first | (go_at_call 122; (with_reducible refine (spec_l26Six.calls k A0 c0 l0 q true _ (Kd.C_below HR.out HB.out) HC.out HA1.out).mono ?_); rintro e w1 ⟨v1, rfl, ho1, hb1⟩; obtain ⟨A1, c1, rfl⟩ := Kd.R_slice ho1; have HQ := Aside0.mk ho1; have m0_ := Aside0.mk (below_step HB.out hb1); clear HB ho1 hb1; have HB := m0_; clear m0_))
  generalize hw1 : w1 = W1 at HB HQ ⊢
  clear hw1
  obtain ⟨ad0, eA, hp0, hp1, hp2⟩ := at_T72 (Kd.R_reads' HQ.out).2.2 0 (by omega) (by have := H6.out; omega)
  subst eA
  obtain ⟨ad1, eA, hp3, hp4, hp5⟩ := at_T72 (Kd.R_reads' HQ.out).2.2 1 (by omega) (by have := H6.out; omega)
  cases eA
  obtain ⟨ad2, eA, hp6, hp7, hp8⟩ := at_T72 (Kd.R_reads' HQ.out).2.2 2 (by omega) (by have := H6.out; omega)
  cases eA
  obtain ⟨ad3, eA, hp9, hp10, hp11⟩ := at_T72 (Kd.R_reads' HQ.out).2.2 3 (by omega) (by have := H6.out; omega)
  cases eA
  obtain ⟨ad4, eA, hp12, hp13, hp14⟩ := at_T72 (Kd.R_reads' HQ.out).2.2 4 (by omega) (by have := H6.out; omega)
  cases eA
  obtain ⟨ad5, eA, hp15, hp16, hp17⟩ := at_T72 (Kd.R_reads' HQ.out).2.2 5 (by omega) (by have := H6.out; omega)
  cases eA
  simp only [Int.reduceToNat, Nat.reduceMul, Addr.add_zero'] at hp0 hp1 hp2
  simp only [Int.reduceToNat, Nat.reduceMul, Nat.reduceEqDiff, Nat.add_assoc, Nat.reduceAdd, Go.Addr.add, ↓reduceIte] at hp3 hp4 hp5 hp6 hp7 hp8 hp9 hp10 hp11 hp12 hp13 hp14 hp15 hp16 hp17
  rw [H6.out]
  cases x with
  | true =>
   obtain ⟨rfl, rfl⟩ := Prod.mk.inj (Option.some.inj (show some (([] : List TRs), false) = some (r1, r2) from by have := HH.out; rwa [if_pos rfl] at this))
   refine region_ (S := fun w' => Below W1.heap.size W1 w') 26 W1.heap.size [] (by kernel_rfl) (by kernel_rfl) (below_drew (Below.refl _ _)) (fun _ _ h1 h2 => h1.trans h2) (fun _ h1 => h1.size) ?_
   iterate 26 (first
    | (refine atV_ (v := ?_) (a' := ?_) rfl rfl rfl rfl (by rfl) ?_ ?_ ?_; rotate_left 2; (· rintro w' hb'; go_simp; with_reducible rfl); (· simp only [Act.put, List.setIfInBounds_toArray, List.set_cons_zero, List.set_cons_succ, i64_w, i32_w]; rfl))
    | (refine atV_ (v := ?_) (a' := ?_) rfl rfl rfl rfl (by rfl) ?_ ?_ ?_; rotate_left 2; (· rintro w' hb'; have s0 := cell_ hb' hp0; have s1 := cell_ hb' hp1; have s2 := cell_ hb' hp2; have s3 := cell_ hb' hp3; have s4 := cell_ hb' hp4; have s5 := cell_ hb' hp5; have s6 := cell_ hb' hp6; have s7 := cell_ hb' hp7; have s8 := cell_ hb' hp8; have s9 := cell_ hb' hp9; have s10 := cell_ hb' hp10; have s11 := cell_ hb' hp11; have s12 := cell_ hb' hp12; have s13 := cell_ hb' hp13; have s14 := cell_ hb' hp14; have s15 := cell_ hb' hp15; have s16 := cell_ hb' hp16; have s17 := cell_ hb' hp17; go_simp; with_reducible rfl); (· simp only [Act.put, List.setIfInBounds_toArray, List.set_cons_zero, List.set_cons_succ, i64_w, i32_w]; rfl))
    | (refine atC_ (a' := ?_) (.bool true) rfl rfl Try.func84 rfl rfl rfl (by rfl) (by kernel_rfl) rfl #[.agg #[.int .i64 (rd_T72 q 0).f0, .int .i64 (rd_T72 q 0).f1, .int .i64 (rd_T72 q 0).f2], .agg #[.int .i64 (rd_T72 q 1).f0, .int .i64 (rd_T72 q 1).f1, .int .i64 (rd_T72 q 1).f2], .agg #[.int .i64 (rd_T72 q 2).f0, .int .i64 (rd_T72 q 2).f1, .int .i64 (rd_T72 q 2).f2]] (by (try simp only [List.map_toArray, List.map_cons, List.map_nil]); rfl) ?_ ?_ ?_; rotate_left; (· rintro w' hb'; with_reducible refine (spec_AreOnOne.calls _ _ _ _ _ _ _ _ _ _ _ HAX.out).mono ?_; rintro e w1 ⟨rfl, hb1⟩; exact ⟨rfl, hb1⟩); (· simp only [Act.put, List.setIfInBounds_toArray, List.set_cons_zero, List.set_cons_succ, i64_w, i32_w]; rfl))
    | (refine atO_ (a' := ?_) rfl rfl rfl rfl (by rfl) ?_ ?_; rotate_left; (· simp only [Act.put, List.setIfInBounds_toArray, List.set_cons_zero, List.set_cons_succ, i64_w, i32_w]; rfl)))
   refine atEnd_ ?_
   intro w2 hb2
   refine done_ (by kernel_rfl) ?_
   have m0_ := Aside0.mk (below_then HB.out (below_size HB.out) hb2)
   clear HB hb2
   have HB := m0_
   clear m0_
   go_wp2_with (first | ((with_reducible refine gate_dst (N := 42) rfl ?_); refine Kd.R_lit k72 _ 72 ?hg (N := 42) ?hd (xs := ([] : List TRs)) (inner := []) (ok := fun _ => True) (okp := fun _ => True) ?hr ?hp (fun _ hk => hk) trivial (Below.refl _ _) (Nat.le_refl _) (by simp) ?_; (case hd => rfl); (case hg => rfl); (case hr => first | (go_simp; done) | (go_simp; rfl)); (case hp => exact (Reps.none _ _)); intro v9 w9 ho9 hb9 hg_ hnew_; have HO9 := Aside0.mk (Kd.R_lower ho9 (below_size HB.out)); have HB9 := Aside0.mk (below_step HB.out hb9); clear hg_ hnew_ ho9 hb9))
   go_ret2
   exact ⟨_, rfl, HO9.out, HB9.out⟩
  | false =>
   have h := HH.out
   rw [if_neg (by decide)] at h
   obtain ⟨y, hy, h⟩ := Option.bind_eq_some_iff.mp h
   have HAY := Aside0.mk (show spec_AreOnOne.f (rd_T72 q 3).f0 (rd_T72 q 3).f1 (rd_T72 q 3).f2 (rd_T72 q 4).f0 (rd_T72 q 4).f1 (rd_T72 q 4).f2 (rd_T72 q 5).f0 (rd_T72 q 5).f1 (rd_T72 q 5).f2 = some y from hy)
   have HH2 := Aside0.mk h
   clear h hy HH
   cases y with
   | true =>
    obtain ⟨rfl, rfl⟩ := Prod.mk.inj (Option.some.inj (show some (([] : List TRs), false) = some (r1, r2) from by have := HH2.out; rwa [if_pos rfl] at this))
    refine region_ (S := fun w' => Below W1.heap.size W1 w') 26 W1.heap.size [] (by kernel_rfl) (by kernel_rfl) (below_drew (Below.refl _ _)) (fun _ _ h1 h2 => h1.trans h2) (fun _ h1 => h1.size) ?_
    iterate 26 (first
     | (refine atV_ (v := ?_) (a' := ?_) rfl rfl rfl rfl (by rfl) ?_ ?_ ?_; rotate_left 2; (· rintro w' hb'; go_simp; with_reducible rfl); (· simp only [Act.put, List.setIfInBounds_toArray, List.set_cons_zero, List.set_cons_succ, i64_w, i32_w]; rfl))
     | (refine atV_ (v := ?_) (a' := ?_) rfl rfl rfl rfl (by rfl) ?_ ?_ ?_; rotate_left 2; (· rintro w' hb'; have s0 := cell_ hb' hp0; have s1 := cell_ hb' hp1; have s2 := cell_ hb' hp2; have s3 := cell_ hb' hp3; have s4 := cell_ hb' hp4; have s5 := cell_ hb' hp5; have s6 := cell_ hb' hp6; have s7 := cell_ hb' hp7; have s8 := cell_ hb' hp8; have s9 := cell_ hb' hp9; have s10 := cell_ hb' hp10; have s11 := cell_ hb' hp11; have s12 := cell_ hb' hp12; have s13 := cell_ hb' hp13; have s14 := cell_ hb' hp14; have s15 := cell_ hb' hp15; have s16 := cell_ hb' hp16; have s17 := cell_ hb' hp17; go_simp; with_reducible rfl); (· simp only [Act.put, List.setIfInBounds_toArray, List.set_cons_zero, List.set_cons_succ, i64_w, i32_w]; rfl))
     | (refine atC_ (a' := ?_) (.bool false) rfl rfl Try.func84 rfl rfl rfl (by rfl) (by kernel_rfl) rfl #[.agg #[.int .i64 (rd_T72 q 0).f0, .int .i64 (rd_T72 q 0).f1, .int .i64 (rd_T72 q 0).f2], .agg #[.int .i64 (rd_T72 q 1).f0, .int .i64 (rd_T72 q 1).f1, .int .i64 (rd_T72 q 1).f2], .agg #[.int .i64 (rd_T72 q 2).f0, .int .i64 (rd_T72 q 2).f1, .int .i64 (rd_T72 q 2).f2]] (by (try simp only [List.map_toArray, List.map_cons, List.map_nil]); rfl) ?_ ?_ ?_; rotate_left; (· rintro w' hb'; with_reducible refine (spec_AreOnOne.calls _ _ _ _ _ _ _ _ _ _ _ HAX.out).mono ?_; rintro e w1 ⟨rfl, hb1⟩; exact ⟨rfl, hb1⟩); (· simp only [Act.put, List.setIfInBounds_toArray, List.set_cons_zero, List.set_cons_succ, i64_w, i32_w]; rfl))
     | (refine atC_ (a' := ?_) (.bool true) rfl rfl Try.func84 rfl rfl rfl (by rfl) (by kernel_rfl) rfl #[.agg #[.int .i64 (rd_T72 q 3).f0, .int .i64 (rd_T72 q 3).f1, .int .i64 (rd_T72 q 3).f2], .agg #[.int .i64 (rd_T72 q 4).f0, .int .i64 (rd_T72 q 4).f1, .int .i64 (rd_T72 q 4).f2], .agg #[.int .i64 (rd_T72 q 5).f0, .int .i64 (rd_T72 q 5).f1, .int .i64 (rd_T72 q 5).f2]] (by (try simp only [List.map_toArray, List.map_cons, List.map_nil]); rfl) ?_ ?_ ?_; rotate_left; (· rintro w' hb'; with_reducible refine (spec_AreOnOne.calls _ _ _ _ _ _ _ _ _ _ _ HAY.out).mono ?_; rintro e w1 ⟨rfl, hb1⟩; exact ⟨rfl, hb1⟩); (· simp only [Act.put, List.setIfInBounds_toArray, List.set_cons_zero, List.set_cons_succ, i64_w, i32_w]; rfl))
     | (refine atO_ (a' := ?_) rfl rfl rfl rfl (by rfl) ?_ ?_; rotate_left; (· simp only [Act.put, List.setIfInBounds_toArray, List.set_cons_zero, List.set_cons_succ, i64_w, i32_w]; rfl)))
    refine atEnd_ ?_
    intro w2 hb2
    refine done_ (by kernel_rfl) ?_
    have m0_ := Aside0.mk (below_then HB.out (below_size HB.out) hb2)
    clear HB hb2
    have HB := m0_
    clear m0_
    go_wp2_with (first | ((with_reducible refine gate_dst (N := 42) rfl ?_); refine Kd.R_lit k72 _ 72 ?hg (N := 42) ?hd (xs := ([] : List TRs)) (inner := []) (ok := fun _ => True) (okp := fun _ => True) ?hr ?hp (fun _ hk => hk) trivial (Below.refl _ _) (Nat.le_refl _) (by simp) ?_; (case hd => rfl); (case hg => rfl); (case hr => first | (go_simp; done) | (go_simp; rfl)); (case hp => exact (Reps.none _ _)); intro v9 w9 ho9 hb9 hg_ hnew_; have HO9 := Aside0.mk (Kd.R_lower ho9 (below_size HB.out)); have HB9 := Aside0.mk (below_step HB.out hb9); clear hg_ hnew_ ho9 hb9))
    go_ret2
    exact ⟨_, rfl, HO9.out, HB9.out⟩
   | false =>
    have H' := Aside0.mk (show spec_DesarguesOf.l0 k q [] 0 = some (r1, r2) from by have := HH2.out; rwa [if_neg (by decide)] at this)
    clear HH2
    refine region_ (S := fun w' => Below W1.heap.size W1 w') 26 W1.heap.size [] (by kernel_rfl) (by kernel_rfl) (below_drew (Below.refl _ _)) (fun _ _ h1 h2 => h1.trans h2) (fun _ h1 => h1.size) ?_
    iterate 26 (first
     | (refine atV_ (v := ?_) (a' := ?_) rfl rfl rfl rfl (by rfl) ?_ ?_ ?_; rotate_left 2; (· rintro w' hb'; go_simp; with_reducible rfl); (· simp only [Act.put, List.setIfInBounds_toArray, List.set_cons_zero, List.set_cons_succ, i64_w, i32_w]; rfl))
     | (refine atV_ (v := ?_) (a' := ?_) rfl rfl rfl rfl (by rfl) ?_ ?_ ?_; rotate_left 2; (· rintro w' hb'; have s0 := cell_ hb' hp0; have s1 := cell_ hb' hp1; have s2 := cell_ hb' hp2; have s3 := cell_ hb' hp3; have s4 := cell_ hb' hp4; have s5 := cell_ hb' hp5; have s6 := cell_ hb' hp6; have s7 := cell_ hb' hp7; have s8 := cell_ hb' hp8; have s9 := cell_ hb' hp9; have s10 := cell_ hb' hp10; have s11 := cell_ hb' hp11; have s12 := cell_ hb' hp12; have s13 := cell_ hb' hp13; have s14 := cell_ hb' hp14; have s15 := cell_ hb' hp15; have s16 := cell_ hb' hp16; have s17 := cell_ hb' hp17; go_simp; with_reducible rfl); (· simp only [Act.put, List.setIfInBounds_toArray, List.set_cons_zero, List.set_cons_succ, i64_w, i32_w]; rfl))
     | (refine atC_ (a' := ?_) (.bool false) rfl rfl Try.func84 rfl rfl rfl (by rfl) (by kernel_rfl) rfl #[.agg #[.int .i64 (rd_T72 q 0).f0, .int .i64 (rd_T72 q 0).f1, .int .i64 (rd_T72 q 0).f2], .agg #[.int .i64 (rd_T72 q 1).f0, .int .i64 (rd_T72 q 1).f1, .int .i64 (rd_T72 q 1).f2], .agg #[.int .i64 (rd_T72 q 2).f0, .int .i64 (rd_T72 q 2).f1, .int .i64 (rd_T72 q 2).f2]] (by (try simp only [List.map_toArray, List.map_cons, List.map_nil]); rfl) ?_ ?_ ?_; rotate_left; (· rintro w' hb'; with_reducible refine (spec_AreOnOne.calls _ _ _ _ _ _ _ _ _ _ _ HAX.out).mono ?_; rintro e w1 ⟨rfl, hb1⟩; exact ⟨rfl, hb1⟩); (· simp only [Act.put, List.setIfInBounds_toArray, List.set_cons_zero, List.set_cons_succ, i64_w, i32_w]; rfl))
     | (refine atC_ (a' := ?_) (.bool false) rfl rfl Try.func84 rfl rfl rfl (by rfl) (by kernel_rfl) rfl #[.agg #[.int .i64 (rd_T72 q 3).f0, .int .i64 (rd_T72 q 3).f1, .int .i64 (rd_T72 q 3).f2], .agg #[.int .i64 (rd_T72 q 4).f0, .int .i64 (rd_T72 q 4).f1, .int .i64 (rd_T72 q 4).f2], .agg #[.int .i64 (rd_T72 q 5).f0, .int .i64 (rd_T72 q 5).f1, .int .i64 (rd_T72 q 5).f2]] (by (try simp only [List.map_toArray, List.map_cons, List.map_nil]); rfl) ?_ ?_ ?_; rotate_left; (· rintro w' hb'; with_reducible refine (spec_AreOnOne.calls _ _ _ _ _ _ _ _ _ _ _ HAY.out).mono ?_; rintro e w1 ⟨rfl, hb1⟩; exact ⟨rfl, hb1⟩); (· simp only [Act.put, List.setIfInBounds_toArray, List.set_cons_zero, List.set_cons_succ, i64_w, i32_w]; rfl))
     | (refine atO_ (a' := ?_) rfl rfl rfl rfl (by rfl) ?_ ?_; rotate_left; (· simp only [Act.put, List.setIfInBounds_toArray, List.set_cons_zero, List.set_cons_succ, i64_w, i32_w]; rfl)))
    refine atEnd_ ?_
    intro w2 hb2
    refine done_ (by kernel_rfl) ?_
    have m0_ := Aside0.mk (below_then HB.out (below_size HB.out) hb2)
    have m1_ := Aside0.mk (Kd.R_below HQ.out hb2)
    clear HB hb2 HQ
    have HB := m0_
    have HQ := m1_
    clear m0_ m1_ hp0 hp1 hp2 hp3 hp4 hp5 hp6 hp7 hp8 hp9 hp10 hp11 hp12 hp13 hp14 hp15 hp16 hp17 HAX HAY
    generalize hw2 : w2 = W2 at HB HQ ⊢
    clear hw2
    go_wp2_with (first | ((with_reducible refine gate_dst (N := 43) rfl ?_); refine Kd.R_lit k72 _ 72 ?hg (N := 43) ?hd (xs := ([] : List TRs)) (inner := []) (ok := fun k_ => k_ = W2.heap.size) (okp := fun k_ => k_ = W2.heap.size) ?hr ?hp (fun _ hk => hk) rfl (Below.refl _ _) (Nat.le_refl _) (by simp) ?_; (case hd => rfl); (case hg => rfl); (case hr => first | (go_simp; done) | (go_simp; rfl)); (case hp => exact (Reps.none _ _)); intro v9 w9 ho9 hb9 hg_ hnew_; have HO9 := Aside0.mk (Kd.R_lower ho9 (below_size HB.out)); have HB9 := Aside0.mk (below_step HB.out hb9); have HS9 := Aside0.mk hb9; clear hg_ hnew_ ho9 hb9))
    have HP := Aside0.mk (pairs_made w9)
    have HQ9 := Aside0.mk (Kd.R_below HQ.out HS9.out)
    have HQB := Aside0.mk (show ∀ b, (Value.slice (some ad0) q.length c1).ownBlock = some b → b < W2.heap.size from fun b hb => ((Kd.R_bound HQ.out).1 b hb).2.2.1)
    have HO5 := Aside0.mk (Kd.R_alloc (Kd.R_alloc (Kd.R_alloc (Kd.R_alloc (Kd.R_mono (Kd.R_bound HO9.out) (ok' := fun k_ => some k_ ≠ (Value.slice (some ad0) q.length c1).ownBlock ∧ (k_ < w9.heap.size ∨ w9.heap.size + 4 ≤ k_)) (fun k_ hk => ⟨fun e_ => by have h9 := HQB.out k_ e_.symm; have h8 := hk.1; omega, .inl hk.2.2.1⟩)) (.cells #[.int .i64 0, .int .i64 1] 3)) (.cells #[.int .i64 0, .int .i64 2] 3)) (.cells #[.int .i64 1, .int .i64 2] 3)) (.cells #[.slice (some ⟨w9.heap.size, 0, none⟩) 2 2, .slice (some ⟨w9.heap.size + 1, 0, none⟩) 2 2, .slice (some ⟨w9.heap.size + 1 + 1, 0, none⟩) 2 2] 29))
    have HQ5 := Aside0.mk (Kd.R_alloc (Kd.R_alloc (Kd.R_alloc (Kd.R_alloc HQ9.out (.cells #[.int .i64 0, .int .i64 1] 3)) (.cells #[.int .i64 0, .int .i64 2] 3)) (.cells #[.int .i64 1, .int .i64 2] 3)) (.cells #[.slice (some ⟨w9.heap.size, 0, none⟩) 2 2, .slice (some ⟨w9.heap.size + 1, 0, none⟩) 2 2, .slice (some ⟨w9.heap.size + 1 + 1, 0, none⟩) 2 2] 29))
    have HB5 := Aside0.mk (below_alloc (below_alloc (below_alloc (below_alloc HB9.out (.cells #[.int .i64 0, .int .i64 1] 3)) (.cells #[.int .i64 0, .int .i64 2] 3)) (.cells #[.int .i64 1, .int .i64 2] 3)) (.cells #[.slice (some ⟨w9.heap.size, 0, none⟩) 2 2, .slice (some ⟨w9.heap.size + 1, 0, none⟩) 2 2, .slice (some ⟨w9.heap.size + 1 + 1, 0, none⟩) 2 2] 29))
    have HQG := Aside0.mk (show ∀ b, (Value.slice (some ad0) q.length c1).ownBlock = some b → b < w9.heap.size from fun b hb => ((Kd.R_bound HQ9.out).1 b hb).2.2.1)
    have HGW := Aside0.mk (below_size HB9.out)
    clear HO9 HQ9 HB9 HS9 HQB HB HQ
    rw [show w9.heap.size + 1 + 1 + 1 = w9.heap.size + 3 from rfl]
    generalize ((((w9.alloc (.cells #[.int .i64 0, .int .i64 1] 3)).alloc (.cells #[.int .i64 0, .int .i64 2] 3)).alloc (.cells #[.int .i64 1, .int .i64 2] 3)).alloc (.cells #[.slice (some ⟨w9.heap.size, 0, none⟩) 2 2, .slice (some ⟨w9.heap.size + 1, 0, none⟩) 2 2, .slice (some ⟨w9.heap.size + 1 + 1, 0, none⟩) 2 2] 29)) = W5 at HP HO5 HQ5 HB5 ⊢
    generalize w9.heap.size = g at HP HO5 HQG HGW ⊢
    go_loopg [6, 8] k (fun kq v6 v8 wr => ∃ (out : List TRs) (i : Nat), v8 = .int .i64 i ∧ i ≤ 3 ∧ Aside0 (spec_DesarguesOf.l0 kq q out i = some (r1, r2)) ∧ Aside0 (kq ≤ k) ∧ Aside0 (Kd.R k72 72 wr w.heap.size (fun k_ => some k_ ≠ (Value.slice (some ad0) q.length c1).ownBlock ∧ (k_ < g ∨ g + 4 ≤ k_)) v6 out) ∧ Aside0 (Kd.R k72 72 wr w.heap.size (fun _ => True) (.slice (some ad0) q.length c1) q) ∧ Aside0 (PairsAt wr g) ∧ Aside0 (Below w.heap.size w wr))
    case atStart => exact ⟨[], 0, rfl, Nat.zero_le _, H', ⟨Nat.le_refl _⟩, HO5, HQ5, HP, HB5⟩
    case round =>
     clear HB5 HO5 HQ5 HP H'
     obtain ⟨out, i, rfl, hil, HA, HK1, HO, HQ, HP, HB⟩ := hrel
     cases gk with
     | zero => exact absurd HA.out (by simp [spec_DesarguesOf.l0])
     | succ k1 =>
      have H := HA.out
      clear HA
      simp only [spec_DesarguesOf.l0] at H
      by_cases hlt : i < 3
      ·rw [if_pos hlt] at H
       have hltz : (i : Int) < 3 := by omega
       obtain ⟨⟨t1, t2, t3⟩, ht, H⟩ := Option.bind_eq_some_iff.mp H
       obtain ⟨⟨u1, u2, u3'⟩, hu, H⟩ := Option.bind_eq_some_iff.mp H
       obtain ⟨b, hb, H⟩ := Option.bind_eq_some_iff.mp H
       obtain ⟨hf0, hf1, hf2⟩ := HP.out.1 i hlt
       have hab : pairA i < 3 ∧ pairB i < 3 := by unfold pairA pairB; constructor <;> split <;> decide
       obtain ⟨za, hza⟩ : ∃ z : Int, (pairA i : Int) = z := ⟨_, rfl⟩
       obtain ⟨zb, hzb⟩ : ∃ z : Int, (pairB i : Int) = z := ⟨_, rfl⟩
       rw [hza, hzb] at ht hu
       rw [hza] at hf0
       rw [hzb] at hf1
       obtain ⟨z2, hz2⟩ : ∃ z, 3 + za = z := ⟨_, rfl⟩
       obtain ⟨z3, hz3⟩ : ∃ z, 3 + zb = z := ⟨_, rfl⟩
       rw [hz2, hz3] at hu
       have HGE := Aside0.mk (show (0 ≤ za ∧ za < 3 ∧ 0 ≤ zb ∧ zb < 3) ∧ 0 ≤ z2 ∧ z2 < 6 ∧ 0 ≤ z3 ∧ z3 < 6 by omega)
       have HWa := Aside0.mk (show wrap64 (3 + za) = z2 by have := HGE.out; unfold wrap64; omega)
       have HWb := Aside0.mk (show wrap64 (3 + zb) = z3 by have := HGE.out; unfold wrap64; omega)
       have HT := Aside0.mk (show spec_CrossOf.f k1 (rd_T72 q za).f0 (rd_T72 q za).f1 (rd_T72 q za).f2 (rd_T72 q zb).f0 (rd_T72 q zb).f1 (rd_T72 q zb).f2 = some (t1, t2, t3) from ht)
       have HU := Aside0.mk (show spec_CrossOf.f k1 (rd_T72 q z2).f0 (rd_T72 q z2).f1 (rd_T72 q z2).f2 (rd_T72 q z3).f0 (rd_T72 q z3).f1 (rd_T72 q z3).f2 = some (u1, u2, u3') from hu)
       have HQQ := Aside0.mk hb
       have HF := Aside0.mk H
       clear ht hu hb H hza hzb hz2 hz3 hab
       obtain ⟨ad10, eA, hq0, hq1, hq2⟩ := at_T72 (Kd.R_reads' HQ.out).2.2 za (by have := HGE.out; omega) (by have := HGE.out; have := H6.out; omega)
       cases eA
       obtain ⟨ad11, eA, hq3, hq4, hq5⟩ := at_T72 (Kd.R_reads' HQ.out).2.2 zb (by have := HGE.out; omega) (by have := HGE.out; have := H6.out; omega)
       cases eA
       obtain ⟨ad12, eA, hq6, hq7, hq8⟩ := at_T72 (Kd.R_reads' HQ.out).2.2 z2 (by have := HGE.out; omega) (by have := HGE.out; have := H6.out; omega)
       cases eA
       obtain ⟨ad13, eA, hq9, hq10, hq11⟩ := at_T72 (Kd.R_reads' HQ.out).2.2 z3 (by have := HGE.out; omega) (by have := HGE.out; have := H6.out; omega)
       cases eA
       have hl0 : (0 ≤ za) = True := eq_true (by have := HGE.out; omega)
       have hu0 : (za < 6) = True := eq_true (by have := HGE.out; omega)
       have hl1 : (0 ≤ zb) = True := eq_true (by have := HGE.out; omega)
       have hu1 : (zb < 6) = True := eq_true (by have := HGE.out; omega)
       have hl2 : (0 ≤ z2) = True := eq_true (by have := HGE.out; omega)
       have hu2 : (z2 < 6) = True := eq_true (by have := HGE.out; omega)
       have hl3 : (0 ≤ z3) = True := eq_true (by have := HGE.out; omega)
       have hu3 : (z3 < 6) = True := eq_true (by have := HGE.out; omega)
       go_wp2_with fail
       refine region_ (S := fun w' => Below wr.heap.size wr w') 21 wr.heap.size [(19, 20)] (by kernel_rfl) (by kernel_rfl) (below_drew (Below.refl _ _)) (fun _ _ h1 h2 => h1.trans h2) (fun _ h1 => h1.size) ?_
       iterate 21 (first
        | (refine atV_ (v := ?_) (a' := ?_) rfl rfl rfl rfl (by rfl) ?_ ?_ ?_; rotate_left 2; (· rintro w' hb'; go_simp; with_reducible rfl); (· simp only [Act.put, List.setIfInBounds_toArray, List.set_cons_zero, List.set_cons_succ, i64_w, i32_w]; rfl))
        | (refine atV_ (v := ?_) (a' := ?_) rfl rfl rfl rfl (by rfl) ?_ ?_ ?_; rotate_left 2; (· rintro w' hb'; have s0 := cell_ hb' hf0; have s1 := cell_ hb' hf1; have s2 := cell_ hb' hf2; have s3 := cell_ hb' hq0; have s4 := cell_ hb' hq1; have s5 := cell_ hb' hq2; have s6 := cell_ hb' hq3; have s7 := cell_ hb' hq4; have s8 := cell_ hb' hq5; go_simp; with_reducible rfl); (· simp only [Act.put, List.setIfInBounds_toArray, List.set_cons_zero, List.set_cons_succ, i64_w, i32_w]; rfl))
        | (refine atC_ (a' := ?_) (.agg #[.int .i64 t1, .int .i64 t2, .int .i64 t3]) rfl rfl Try.func82 rfl rfl rfl (by rfl) (by kernel_rfl) rfl #[.agg #[.int .i64 (rd_T72 q za).f0, .int .i64 (rd_T72 q za).f1, .int .i64 (rd_T72 q za).f2], .agg #[.int .i64 (rd_T72 q zb).f0, .int .i64 (rd_T72 q zb).f1, .int .i64 (rd_T72 q zb).f2]] (by (try simp only [List.map_toArray, List.map_cons, List.map_nil]); rfl) ?_ ?_ ?_; rotate_left; (· rintro w' hb'; with_reducible refine (spec_CrossOf.calls k1 _ _ _ _ _ _ t1 t2 t3 _ HT.out).mono ?_; rintro e w1 ⟨rfl, hb1⟩; exact ⟨rfl, hb1⟩); (· simp only [Act.put, List.setIfInBounds_toArray, List.set_cons_zero, List.set_cons_succ, i64_w, i32_w]; rfl))
        | (refine atN_ #[.int .i64 0, .int .i64 0, .int .i64 0] 72 (some (20, #[.int .i64 t1, .int .i64 t2, .int .i64 t3])) rfl rfl rfl rfl (by rfl) ?_ ?_; (· rintro w' hb'; first | (go_simp; done) | (go_simp; rfl)))
        | (refine atS_ 0 rfl rfl rfl rfl rfl rfl (fun g => by rfl) ?_ ?_; (· rintro g w' hb' hg hn; have hs0 := (blk_cell hg 0).trans rfl; have hs1 := (blk_cell hg 1).trans rfl; have hs2 := (blk_cell hg 2).trans rfl; have hf0 := blk_frozen hg 0; have hf1 := blk_frozen hg 1; have hf2 := blk_frozen hg 2; refine ⟨_, ?_, (mut3_ hg _ _ _).1, (mut3_ hg _ _ _).2⟩; first | (go_simp; done) | (go_simp; rfl))))
       refine atEnd_ ?_
       intro w5 hb5 g1 _ h1 _
       refine done_ (by kernel_rfl) ?_
       have HG1 := Aside0.mk h1
       have HB5 := Aside0.mk (below_then HB.out (below_size HB.out) hb5)
       have HO5 := Aside0.mk (Kd.R_below HO.out hb5)
       have HQ5 := Aside0.mk (Kd.R_below HQ.out hb5)
       have HP5 := Aside0.mk (HP.out.to hb5.size (fun k_ _ hk_ => hb5.block k_ (by have := HP.out.2; omega)))
       replace hf0 := cell_ hb5 hf0
       replace hf1 := cell_ hb5 hf1
       replace hf2 := cell_ hb5 hf2
       replace hq0 := cell_ hb5 hq0
       replace hq1 := cell_ hb5 hq1
       replace hq2 := cell_ hb5 hq2
       replace hq3 := cell_ hb5 hq3
       replace hq4 := cell_ hb5 hq4
       replace hq5 := cell_ hb5 hq5
       replace hq6 := cell_ hb5 hq6
       replace hq7 := cell_ hb5 hq7
       replace hq8 := cell_ hb5 hq8
       replace hq9 := cell_ hb5 hq9
       replace hq10 := cell_ hb5 hq10
       replace hq11 := cell_ hb5 hq11
       clear hb5 h1 HB HO HQ HP
       go_wp2_with fail
       refine region_ (S := fun w' => Below w5.heap.size w5 w') 23 w5.heap.size [(21, 22)] (by kernel_rfl) (by kernel_rfl) (below_drew (Below.refl _ _)) (fun _ _ h1 h2 => h1.trans h2) (fun _ h1 => h1.size) ?_
       iterate 23 (first
        | (refine atV_ (v := .int .i64 z2) (a' := ?_) rfl rfl rfl rfl (by rfl) ?_ ?_ ?_; rotate_left 1; (· rintro w' hb'; go_simp; exact (i64_w _).trans HWa.out); (· simp only [Act.put, List.setIfInBounds_toArray, List.set_cons_zero, List.set_cons_succ, i64_w, i32_w]; rfl))
        | (refine atV_ (v := .int .i64 z3) (a' := ?_) rfl rfl rfl rfl (by rfl) ?_ ?_ ?_; rotate_left 1; (· rintro w' hb'; go_simp; exact (i64_w _).trans HWb.out); (· simp only [Act.put, List.setIfInBounds_toArray, List.set_cons_zero, List.set_cons_succ, i64_w, i32_w]; rfl))
        | (refine atV_ (v := ?_) (a' := ?_) rfl rfl rfl rfl (by rfl) ?_ ?_ ?_; rotate_left 2; (· rintro w' hb'; go_simp; with_reducible rfl); (· simp only [Act.put, List.setIfInBounds_toArray, List.set_cons_zero, List.set_cons_succ, i64_w, i32_w]; rfl))
        | (refine atV_ (v := ?_) (a' := ?_) rfl rfl rfl rfl (by rfl) ?_ ?_ ?_; rotate_left 2; (· rintro w' hb'; have s0 := cell_ hb' hf0; have s1 := cell_ hb' hf1; have s2 := cell_ hb' hf2; have s3 := cell_ hb' hq6; have s4 := cell_ hb' hq7; have s5 := cell_ hb' hq8; have s6 := cell_ hb' hq9; have s7 := cell_ hb' hq10; have s8 := cell_ hb' hq11; go_simp; with_reducible rfl); (· simp only [Act.put, List.setIfInBounds_toArray, List.set_cons_zero, List.set_cons_succ, i64_w, i32_w]; rfl))
        | (refine atC_ (a' := ?_) (.agg #[.int .i64 u1, .int .i64 u2, .int .i64 u3']) rfl rfl Try.func82 rfl rfl rfl (by rfl) (by kernel_rfl) rfl #[.agg #[.int .i64 (rd_T72 q z2).f0, .int .i64 (rd_T72 q z2).f1, .int .i64 (rd_T72 q z2).f2], .agg #[.int .i64 (rd_T72 q z3).f0, .int .i64 (rd_T72 q z3).f1, .int .i64 (rd_T72 q z3).f2]] (by (try simp only [List.map_toArray, List.map_cons, List.map_nil]); rfl) ?_ ?_ ?_; rotate_left; (· rintro w' hb'; with_reducible refine (spec_CrossOf.calls k1 _ _ _ _ _ _ u1 u2 u3' _ HU.out).mono ?_; rintro e w1 ⟨rfl, hb1⟩; exact ⟨rfl, hb1⟩); (· simp only [Act.put, List.setIfInBounds_toArray, List.set_cons_zero, List.set_cons_succ, i64_w, i32_w]; rfl))
        | (refine atN_ #[.int .i64 0, .int .i64 0, .int .i64 0] 72 (some (22, #[.int .i64 u1, .int .i64 u2, .int .i64 u3'])) rfl rfl rfl rfl (by rfl) ?_ ?_; (· rintro w' hb'; first | (go_simp; done) | (go_simp; rfl)))
        | (refine atS_ 0 rfl rfl rfl rfl rfl rfl (fun g => by rfl) ?_ ?_; (· rintro g w' hb' hg hn; have hs0 := (blk_cell hg 0).trans rfl; have hs1 := (blk_cell hg 1).trans rfl; have hs2 := (blk_cell hg 2).trans rfl; have hf0 := blk_frozen hg 0; have hf1 := blk_frozen hg 1; have hf2 := blk_frozen hg 2; refine ⟨_, ?_, (mut3_ hg _ _ _).1, (mut3_ hg _ _ _).2⟩; first | (go_simp; done) | (go_simp; rfl))))
       refine atEnd_ ?_
       intro w6 hb6 g2 _ h2 _
       refine done_ (by kernel_rfl) ?_
       have HG1' := Aside0.mk ((hb6.block g1 (Array.getElem?_eq_some_iff.1 HG1.out).1).trans HG1.out)
       have HG2 := Aside0.mk h2
       have HB6 := Aside0.mk (below_then HB5.out (below_size HB5.out) hb6)
       have HO6 := Aside0.mk (Kd.R_below HO5.out hb6)
       have HQ6 := Aside0.mk (Kd.R_below HQ5.out hb6)
       have HP6 := Aside0.mk (HP5.out.to hb6.size (fun k_ _ hk_ => hb6.block k_ (by have := HP5.out.2; omega)))
       clear hb6 h2 HG1 HB5 HO5 HQ5 HP5 hf0 hf1 hf2 hq0 hq1 hq2 hq3 hq4 hq5 hq6 hq7 hq8 hq9 hq10 hq11 hl0 hl1 hl2 hl3 hu0 hu1 hu2 hu3
       have hg10 : w6.cell? ⟨g1, 0, none⟩ = some (.int .i64 t1) := by simp [World.cell?, HG1'.out, contE]
       have hg11 : w6.cell? ⟨g1, 1, none⟩ = some (.int .i64 t2) := by simp [World.cell?, HG1'.out, contE]
       have hg12 : w6.cell? ⟨g1, 2, none⟩ = some (.int .i64 t3) := by simp [World.cell?, HG1'.out, contE]
       have hg20 : w6.cell? ⟨g2, 0, none⟩ = some (.int .i64 u1) := by simp [World.cell?, HG2.out, contE]
       have hg21 : w6.cell? ⟨g2, 1, none⟩ = some (.int .i64 u2) := by simp [World.cell?, HG2.out, contE]
       have hg22 : w6.cell? ⟨g2, 2, none⟩ = some (.int .i64 u3') := by simp [World.cell?, HG2.out, contE]
       cases b with
       | true =>
        obtain ⟨rfl, rfl⟩ := Prod.mk.inj (Option.some.inj (show some (([] : List TRs), false) = some (r1, r2) from by have := HF.out; rwa [if_pos rfl] at this))
        go_wp2_with (first
         | (go_at_call 123; (with_reducible refine (spec_l26Equal.calls k1 _ _ _ _ _ _ true _ HQQ.out).mono ?_); rintro e w7 ⟨rfl, hb7⟩; have HB7 := Aside0.mk (below_step HB6.out hb7); clear hb7)
         | ((with_reducible refine gate_dst (N := 95) rfl ?_); refine Kd.R_lit k72 _ 72 ?hg (N := 95) ?hd (xs := ([] : List TRs)) (inner := []) (ok := fun _ => True) (okp := fun _ => True) ?hr ?hp (fun _ hk => hk) trivial (Below.refl _ _) (Nat.le_refl _) (by simp) ?_; (case hd => rfl); (case hg => rfl); (case hr => first | (go_simp; done) | (go_simp; rfl)); (case hp => exact (Reps.none _ _)); intro v9 w9 ho9 hb9 hg_ hnew_; have HO9 := Aside0.mk (Kd.R_lower ho9 (below_size HB7.out)); have HB9 := Aside0.mk (below_step HB7.out hb9); clear hg_ hnew_ ho9 hb9))
        go_ret2
        exact ⟨_, rfl, HO9.out, HB9.out⟩
       | false =>
        have H := HF.out
        rw [if_neg (by decide)] at H
        obtain ⟨⟨c1', c2, c3'⟩, hc, H⟩ := Option.bind_eq_some_iff.mp H
        by_cases hol : out.length < 1000000
        case neg => rw [if_neg hol] at H; cases H
        rw [if_pos hol] at H
        have HCR := Aside0.mk hc
        have HOL := Aside0.mk hol
        have H' := Aside0.mk H
        clear HF hc hol H
        go_wp2_with (first
         | (go_at_call 123; (with_reducible refine (spec_l26Equal.calls k1 _ _ _ _ _ _ false _ HQQ.out).mono ?_); rintro e w7 ⟨rfl, hb7⟩; have HB7 := Aside0.mk (below_step HB6.out hb7); have HO7 := Aside0.mk (Kd.R_below HO6.out hb7); have HQ7 := Aside0.mk (Kd.R_below HQ6.out hb7); have HP7 := Aside0.mk (HP6.out.to hb7.size (fun k_ _ hk_ => hb7.block k_ (by have := HP6.out.2; omega))); have k10 := cell_ hb7 hg10; have k11 := cell_ hb7 hg11; have k12 := cell_ hb7 hg12; have k20 := cell_ hb7 hg20; have k21 := cell_ hb7 hg21; have k22 := cell_ hb7 hg22; clear hb7 HB6 HO6 HQ6 HP6 hg10 hg11 hg12 hg20 hg21 hg22)
         | (go_at_call 82; (with_reducible refine (spec_CrossOf.calls k1 _ _ _ _ _ _ c1' c2 c3' _ HCR.out).mono ?_); rintro e w8 ⟨rfl, hb8⟩; have HB8 := Aside0.mk (below_step HB7.out hb8); have HO8 := Aside0.mk (Kd.R_below HO7.out hb8); have HQ8 := Aside0.mk (Kd.R_below HQ7.out hb8); have HP8 := Aside0.mk (HP7.out.to hb8.size (fun k_ _ hk_ => hb8.block k_ (by have := HP7.out.2; omega))); clear hb8 HB7 HO7 HQ7 HP7)
         | ((with_reducible refine gate_builtin (b := .append) (xs := #[.tmp 96, .tmp 100]) rfl ?_); at_builtin; refine Kd.R_append k72 (w0 := w) w.heap.size rfl (.tmp 96) (.tmp 100) 65 72 (.agg #[(.int .i64 0), (.int .i64 0), (.int .i64 0)]) 24 rfl Try.underlying65 info72 rfl (by decide) (by omega) u6 out (⟨c1', c2, c3'⟩ : TRs) [.int .i64 c1', .int .i64 c2, .int .i64 c3'] (fun k_ => some k_ ≠ (Value.slice (some ad0) q.length c1).ownBlock ∧ (k_ < g ∨ g + 4 ≤ k_)) (fun _ => False) rfl rfl ?aP (fun _ hk => hk.elim) ?aF HO8.out HB8.out (below_size HB8.out) ?aL ?_; (case aP => exact k72_mkM _ _ _ (⟨c1', c2, c3'⟩ : TRs)); (case aF => exact (fun k_ hk => ⟨fun e_ => by have h9 := ((Kd.R_bound HQ8.out).1 k_ e_.symm).2.2.1; omega, .inr (by have := HP8.out.2; omega)⟩)); (case aL => have := HOL.out; omega); intro v9 w9 ho hb hg hat; have HB9 := Aside0.mk hb; have HO9 := Aside0.mk ho; have HQ9 := Aside0.mk (Kd.R_grown2 HQ8.out rfl hg (fun k_ hk_ => (HO8.out.1 k_ hk_).1)); have HP9 := Aside0.mk (HP8.out.to hg.size (fun k_ hk1 hk2 => hg.block k_ (by have := HP8.out.2; omega) (fun e_ => by have h9 := (HO8.out.1 k_ e_.symm).2; omega))); clear ho hb hg hat HB8 HO8 HQ8 HP8))
        go_roundg k1
        case measure => have := HK1.out; omega
        case rel => exact ⟨out ++ [⟨c1', c2, c3'⟩], i + 1, by have e9 : wrap64 ((i : Int) + 1) = ((i + 1 : Nat) : Int) := (by unfold wrap64; omega); first | rfl | exact congrArg (Value.int IntTy.i64) e9 | exact congrArg (Value.int IntTy.i64) ((i64_w _).trans e9) | exact congrArg (Value.int IntTy.i64) (by omega), by omega, H', ⟨by have := HK1.out; omega⟩, HO9, HQ9, HP9, HB9⟩
      ·have hltz : ¬ (i : Int) < 3 := by omega
       rw [if_neg hlt] at H
       obtain ⟨rfl, rfl⟩ := Prod.mk.inj (Option.some.inj H)
       have HOZ := Aside0.mk (Kd.R_mono HO.out (ok' := fun _ => True) (fun _ _ => trivial))
       clear H HQ HO HP
       go_wp2
       go_ret2
       exact ⟨_, rfl, HOZ.out, HB.out⟩
theorem spec_DesarguesOf.mono_l : ∀ k q out i, LeO (spec_DesarguesOf.l0 k q out i) (spec_DesarguesOf.l0 (k + 1) q out i)
 | 0 => fun _ _ _ r h => by simp [spec_DesarguesOf.l0] at h
 | k + 1 => by
  have ih := spec_DesarguesOf.mono_l k
  intro q out i
  unfold spec_DesarguesOf.l0 crossS
  repeat' first
   | (with_reducible exact ih _ _ _)
   | (with_reducible exact spec_CrossOf.mono _ _ _ _ _ _ _)
   | (with_reducible exact spec_l26Equal.mono _ _ _ _ _ _ _)
   | (with_reducible exact LeO.refl _)
   | (with_reducible exact LeO.none _)
   | (with_reducible refine LeO.ite ?_ ?_)
   | (with_reducible refine LeO.bind ?_ (fun _ => ?_))
theorem spec_DesarguesOf.mono : ∀ a0 k, LeO (spec_DesarguesOf.f k a0) (spec_DesarguesOf.f (k + 1) a0) := by
 intro a0 k
 unfold spec_DesarguesOf.f onS
 repeat' first
  | (with_reducible exact spec_DesarguesOf.mono_l _ _ _ _)
  | (with_reducible exact spec_l26Six.mono _ _)
  | (with_reducible exact spec_AreOnOne.mono _ _ _ _ _ _ _ _ _ _)
  | (with_reducible exact LeO.refl _)
  | (with_reducible exact LeO.none _)
  | (with_reducible refine LeO.ite ?_ ?_)
  | (with_reducible refine LeO.bind ?_ (fun _ => ?_))

end Go.Proofs.Ytldcckcljjlglaa.P

namespace Go.Proofs.Ytldcckcljjlglaa.P
open Go.RowKit Go.Proofs.YtldcckcljjlglaaW.PrintWords Go.Proofs.YtldcckcljjlglaaW.PrintLast Go.Proofs.YtldcckcljjlglaaW.PrintMore
attribute [local go_sem] max2_int min2_int max_two min_two max_three min_three max_four min_four   -- for this text's walks alone
set_option linter.unusedVariables false
set_option linter.unusedSimpArgs false

/-! ### spec_ArePerspective: function 64 -/
def spec_ArePerspective.f (k : Nat) (l0 : List S80) : Option Bool := (spec_DesarguesOf.f k l0).bind fun s => if s.2 = true then (spec_l26Six.f k l0).bind fun p => (if p.1.length = 6 then (crossS k (tr p.1 0) (tr p.1 3)).bind fun x => (crossS k (tr p.1 1) (tr p.1 4)).bind fun y => (crossS k (tr p.1 2) (tr p.1 5)).bind fun z => (spec_l26Equal.f k x.1 x.2.1 x.2.2 y.1 y.2.1 y.2.2).bind fun b1 => (if b1 = true then some false else (spec_l26Equal.f k x.1 x.2.1 x.2.2 z.1 z.2.1 z.2.2).bind fun b2 => (if b2 = true then some false else (spec_l26Equal.f k y.1 y.2.1 y.2.2 z.1 z.2.1 z.2.2).bind fun b3 => (if b3 = true then some false else spec_AreOnOne.f x.1 x.2.1 x.2.2 y.1 y.2.1 y.2.2 z.1 z.2.1 z.2.2))) else none) else some false
set_option maxHeartbeats 4000000 in
set_option maxRecDepth 100000 in
theorem spec_ArePerspective.calls (k : Nat) (A0 : Option Addr) (c0 : Nat) (l0 : List S80) (r : Bool) (w : World) (hr0 : Kd.C k80 w A0 l0.length l0) (hc0 : l0.length ≤ c0) (h : spec_ArePerspective.f k l0 = some r) :
  Calls Try.prog 64 #[.slice A0 l0.length c0] w fun e w' => e = .returned (.bool r) ∧ Below w.heap.size w w' := by
 have HR := Aside0.mk hr0
 have HC := Aside0.mk hc0
 have HB := Aside0.mk (Below.refl w.heap.size w)
 unfold spec_ArePerspective.f at h
 obtain ⟨⟨q0, b0⟩, hd, h⟩ := Option.bind_eq_some_iff.mp h
 have HD := Aside0.mk hd
 clear hr0 hc0 hd
 have hup := Try.underlying80
 have hut := Try.underlying72
 cases b0 with
 | false =>
  obtain rfl := Option.some.inj (show some false = some r from h)
  clear h
  go_enter Try.func64, Try.ntmps64
  go_wp2_with (go_at_call 74; (with_reducible refine (spec_DesarguesOf.calls k A0 c0 l0 q0 false _ (Kd.C_below HR.out HB.out) HC.out HD.out).mono ?_); rintro e w1 ⟨v1_, rfl, _, hb1⟩; have m0_ := Aside0.mk (below_step HB.out hb1); clear HB; have HB := m0_; clear m0_; clear hb1)
  go_ret
  exact ⟨rfl, HB.out⟩
 | true =>
  rw [if_pos rfl] at h
  obtain ⟨⟨q, b⟩, hs, h⟩ := Option.bind_eq_some_iff.mp h
  by_cases h6 : q.length = 6
  case neg => rw [if_neg h6] at h; cases h
  rw [if_pos h6] at h
  obtain ⟨⟨t1, t2, t3⟩, ht, h⟩ := Option.bind_eq_some_iff.mp h
  obtain ⟨⟨u1, u2, u3'⟩, hu, h⟩ := Option.bind_eq_some_iff.mp h
  obtain ⟨⟨v1, v2, v3⟩, hv, h⟩ := Option.bind_eq_some_iff.mp h
  obtain ⟨b1, hb_, h⟩ := Option.bind_eq_some_iff.mp h
  have H6 := Aside0.mk h6
  have HS := Aside0.mk hs
  have HT := Aside0.mk (show spec_CrossOf.f k (rd_T72 q 0).f0 (rd_T72 q 0).f1 (rd_T72 q 0).f2 (rd_T72 q 3).f0 (rd_T72 q 3).f1 (rd_T72 q 3).f2 = some (t1, t2, t3) from ht)
  have HU := Aside0.mk (show spec_CrossOf.f k (rd_T72 q 1).f0 (rd_T72 q 1).f1 (rd_T72 q 1).f2 (rd_T72 q 4).f0 (rd_T72 q 4).f1 (rd_T72 q 4).f2 = some (u1, u2, u3') from hu)
  have HV := Aside0.mk (show spec_CrossOf.f k (rd_T72 q 2).f0 (rd_T72 q 2).f1 (rd_T72 q 2).f2 (rd_T72 q 5).f0 (rd_T72 q 5).f1 (rd_T72 q 5).f2 = some (v1, v2, v3) from hv)
  have HE0 := Aside0.mk (show spec_l26Equal.f k t1 t2 t3 u1 u2 u3' = some b1 from hb_)
  have HF := Aside0.mk h
  clear h6 hs ht hu hv hb_ h
  go_enter Try.func64, Try.ntmps64
  go_wp2_with (first
   | (go_at_call 74; (with_reducible refine (spec_DesarguesOf.calls k A0 c0 l0 q0 true _ (Kd.C_below HR.out HB.out) HC.out HD.out).mono ?_); rintro e w1 ⟨v1_, rfl, _, hb1⟩; have m0_ := Aside0.mk (below_step HB.out hb1); clear HB; have HB := m0_; clear m0_; clear hb1)
   | (go_at_call 122; (with_reducible refine (spec_l26Six.calls k A0 c0 l0 q b _ (Kd.C_below HR.out HB.out) HC.out HS.out).mono ?_); rintro e w2 ⟨v1_, rfl, ho1, hb1⟩; obtain ⟨A1, c1, rfl⟩ := Kd.R_slice ho1; have HQ := Aside0.mk ho1; have m0_ := Aside0.mk (below_step HB.out hb1); clear HB; have HB := m0_; clear m0_; clear ho1 hb1))
  rw [H6.out]
  obtain ⟨ad0, eA, hp0, hp1, hp2⟩ := at_T72 (Kd.R_reads' HQ.out).2.2 0 (by omega) (by have := H6.out; omega)
  subst eA
  obtain ⟨ad1, eA, hp3, hp4, hp5⟩ := at_T72 (Kd.R_reads' HQ.out).2.2 1 (by omega) (by have := H6.out; omega)
  cases eA
  obtain ⟨ad2, eA, hp6, hp7, hp8⟩ := at_T72 (Kd.R_reads' HQ.out).2.2 2 (by omega) (by have := H6.out; omega)
  cases eA
  obtain ⟨ad3, eA, hp9, hp10, hp11⟩ := at_T72 (Kd.R_reads' HQ.out).2.2 3 (by omega) (by have := H6.out; omega)
  cases eA
  obtain ⟨ad4, eA, hp12, hp13, hp14⟩ := at_T72 (Kd.R_reads' HQ.out).2.2 4 (by omega) (by have := H6.out; omega)
  cases eA
  obtain ⟨ad5, eA, hp15, hp16, hp17⟩ := at_T72 (Kd.R_reads' HQ.out).2.2 5 (by omega) (by have := H6.out; omega)
  cases eA
  simp only [Int.reduceToNat, Nat.reduceMul, Addr.add_zero'] at hp0 hp1 hp2
  simp only [Int.reduceToNat, Nat.reduceMul, Nat.reduceEqDiff, Nat.add_assoc, Nat.reduceAdd, Go.Addr.add, ↓reduceIte] at hp3 hp4 hp5 hp6 hp7 hp8 hp9 hp10 hp11 hp12 hp13 hp14 hp15 hp16 hp17
  clear HQ
  refine region_ (S := fun w' => Below w2.heap.size w2 w') 9 w2.heap.size [(7, 8)] (by kernel_rfl) (by kernel_rfl) (below_drew (Below.refl _ _)) (fun _ _ h1 h2 => h1.trans h2) (fun _ h1 => h1.size) ?_
  iterate 9 (first
   | (refine atV_ (v := ?_) (a' := ?_) rfl rfl rfl rfl (by rfl) ?_ ?_ ?_; rotate_left 2; (· rintro w' hb'; go_simp; with_reducible rfl); (· simp only [Act.put, List.setIfInBounds_toArray, List.set_cons_zero, List.set_cons_succ, i64_w, i32_w]; rfl))
   | (refine atV_ (v := ?_) (a' := ?_) rfl rfl rfl rfl (by rfl) ?_ ?_ ?_; rotate_left 2; (· rintro w' hb'; have s0 := cell_ hb' hp0; have s1 := cell_ hb' hp1; have s2 := cell_ hb' hp2; have s3 := cell_ hb' hp9; have s4 := cell_ hb' hp10; have s5 := cell_ hb' hp11; go_simp; with_reducible rfl); (· simp only [Act.put, List.setIfInBounds_toArray, List.set_cons_zero, List.set_cons_succ, i64_w, i32_w]; rfl))
   | (refine atC_ (a' := ?_) (.agg #[.int .i64 t1, .int .i64 t2, .int .i64 t3]) rfl rfl Try.func82 rfl rfl rfl (by rfl) (by kernel_rfl) rfl #[.agg #[.int .i64 (rd_T72 q 0).f0, .int .i64 (rd_T72 q 0).f1, .int .i64 (rd_T72 q 0).f2], .agg #[.int .i64 (rd_T72 q 3).f0, .int .i64 (rd_T72 q 3).f1, .int .i64 (rd_T72 q 3).f2]] (by (try simp only [List.map_toArray, List.map_cons, List.map_nil]); rfl) ?_ ?_ ?_; rotate_left; (· rintro w' hb'; with_reducible refine (spec_CrossOf.calls k _ _ _ _ _ _ t1 t2 t3 _ HT.out).mono ?_; rintro e w1 ⟨rfl, hb1⟩; exact ⟨rfl, hb1⟩); (· simp only [Act.put, List.setIfInBounds_toArray, List.set_cons_zero, List.set_cons_succ, i64_w, i32_w]; rfl))
   | (refine atN_ #[.int .i64 0, .int .i64 0, .int .i64 0] 72 (some (8, #[.int .i64 t1, .int .i64 t2, .int .i64 t3])) rfl rfl rfl rfl (by rfl) ?_ ?_; (· rintro w' hb'; first | (go_simp; done) | (go_simp; rfl)))
   | (refine atS_ 0 rfl rfl rfl rfl rfl rfl (fun g => by rfl) ?_ ?_; (· rintro g w' hb' hg hn; have hs0 := (blk_cell hg 0).trans rfl; have hs1 := (blk_cell hg 1).trans rfl; have hs2 := (blk_cell hg 2).trans rfl; have hf0 := blk_frozen hg 0; have hf1 := blk_frozen hg 1; have hf2 := blk_frozen hg 2; refine ⟨_, ?_, (mut3_ hg _ _ _).1, (mut3_ hg _ _ _).2⟩; first | (go_simp; done) | (go_simp; rfl))))
  refine atEnd_ ?_
  intro x1 hb5 g1 _ h1 _
  refine done_ (by kernel_rfl) ?_
  have hg10 : x1.cell? ⟨g1, 0, none⟩ = some (.int .i64 t1) := by simp [World.cell?, h1, contE]
  have hg11 : x1.cell? ⟨g1, 1, none⟩ = some (.int .i64 t2) := by simp [World.cell?, h1, contE]
  have hg12 : x1.cell? ⟨g1, 2, none⟩ = some (.int .i64 t3) := by simp [World.cell?, h1, contE]
  replace hp3 := cell_ hb5 hp3
  replace hp4 := cell_ hb5 hp4
  replace hp5 := cell_ hb5 hp5
  replace hp12 := cell_ hb5 hp12
  replace hp13 := cell_ hb5 hp13
  replace hp14 := cell_ hb5 hp14
  replace hp6 := cell_ hb5 hp6
  replace hp7 := cell_ hb5 hp7
  replace hp8 := cell_ hb5 hp8
  replace hp15 := cell_ hb5 hp15
  replace hp16 := cell_ hb5 hp16
  replace hp17 := cell_ hb5 hp17
  have m0_ := Aside0.mk (below_then HB.out (below_size HB.out) hb5)
  clear HB hb5 h1 HT hp0 hp1 hp2 hp9 hp10 hp11
  have HB := m0_
  clear m0_
  go_wp2_with fail
  refine region_ (S := fun w' => Below x1.heap.size x1 w') 9 x1.heap.size [(7, 8)] (by kernel_rfl) (by kernel_rfl) (below_drew (Below.refl _ _)) (fun _ _ h1 h2 => h1.trans h2) (fun _ h1 => h1.size) ?_
  iterate 9 (first
   | (refine atV_ (v := ?_) (a' := ?_) rfl rfl rfl rfl (by rfl) ?_ ?_ ?_; rotate_left 2; (· rintro w' hb'; go_simp; with_reducible rfl); (· simp only [Act.put, List.setIfInBounds_toArray, List.set_cons_zero, List.set_cons_succ, i64_w, i32_w]; rfl))
   | (refine atV_ (v := ?_) (a' := ?_) rfl rfl rfl rfl (by rfl) ?_ ?_ ?_; rotate_left 2; (· rintro w' hb'; have s0 := cell_ hb' hp3; have s1 := cell_ hb' hp4; have s2 := cell_ hb' hp5; have s3 := cell_ hb' hp12; have s4 := cell_ hb' hp13; have s5 := cell_ hb' hp14; go_simp; with_reducible rfl); (· simp only [Act.put, List.setIfInBounds_toArray, List.set_cons_zero, List.set_cons_succ, i64_w, i32_w]; rfl))
   | (refine atC_ (a' := ?_) (.agg #[.int .i64 u1, .int .i64 u2, .int .i64 u3']) rfl rfl Try.func82 rfl rfl rfl (by rfl) (by kernel_rfl) rfl #[.agg #[.int .i64 (rd_T72 q 1).f0, .int .i64 (rd_T72 q 1).f1, .int .i64 (rd_T72 q 1).f2], .agg #[.int .i64 (rd_T72 q 4).f0, .int .i64 (rd_T72 q 4).f1, .int .i64 (rd_T72 q 4).f2]] (by (try simp only [List.map_toArray, List.map_cons, List.map_nil]); rfl) ?_ ?_ ?_; rotate_left; (· rintro w' hb'; with_reducible refine (spec_CrossOf.calls k _ _ _ _ _ _ u1 u2 u3' _ HU.out).mono ?_; rintro e w1 ⟨rfl, hb1⟩; exact ⟨rfl, hb1⟩); (· simp only [Act.put, List.setIfInBounds_toArray, List.set_cons_zero, List.set_cons_succ, i64_w, i32_w]; rfl))
   | (refine atN_ #[.int .i64 0, .int .i64 0, .int .i64 0] 72 (some (8, #[.int .i64 u1, .int .i64 u2, .int .i64 u3'])) rfl rfl rfl rfl (by rfl) ?_ ?_; (· rintro w' hb'; first | (go_simp; done) | (go_simp; rfl)))
   | (refine atS_ 0 rfl rfl rfl rfl rfl rfl (fun g => by rfl) ?_ ?_; (· rintro g w' hb' hg hn; have hs0 := (blk_cell hg 0).trans rfl; have hs1 := (blk_cell hg 1).trans rfl; have hs2 := (blk_cell hg 2).trans rfl; have hf0 := blk_frozen hg 0; have hf1 := blk_frozen hg 1; have hf2 := blk_frozen hg 2; refine ⟨_, ?_, (mut3_ hg _ _ _).1, (mut3_ hg _ _ _).2⟩; first | (go_simp; done) | (go_simp; rfl))))
  refine atEnd_ ?_
  intro x2 hb5 g2 _ h1 _
  refine done_ (by kernel_rfl) ?_
  have hg20 : x2.cell? ⟨g2, 0, none⟩ = some (.int .i64 u1) := by simp [World.cell?, h1, contE]
  have hg21 : x2.cell? ⟨g2, 1, none⟩ = some (.int .i64 u2) := by simp [World.cell?, h1, contE]
  have hg22 : x2.cell? ⟨g2, 2, none⟩ = some (.int .i64 u3') := by simp [World.cell?, h1, contE]
  replace hg10 := cell_ hb5 hg10
  replace hg11 := cell_ hb5 hg11
  replace hg12 := cell_ hb5 hg12
  replace hp6 := cell_ hb5 hp6
  replace hp7 := cell_ hb5 hp7
  replace hp8 := cell_ hb5 hp8
  replace hp15 := cell_ hb5 hp15
  replace hp16 := cell_ hb5 hp16
  replace hp17 := cell_ hb5 hp17
  have m0_ := Aside0.mk (below_then HB.out (below_size HB.out) hb5)
  clear HB hb5 h1 HU hp3 hp4 hp5 hp12 hp13 hp14
  have HB := m0_
  clear m0_
  go_wp2_with fail
  refine region_ (S := fun w' => Below x2.heap.size x2 w') 9 x2.heap.size [(7, 8)] (by kernel_rfl) (by kernel_rfl) (below_drew (Below.refl _ _)) (fun _ _ h1 h2 => h1.trans h2) (fun _ h1 => h1.size) ?_
  iterate 9 (first
   | (refine atV_ (v := ?_) (a' := ?_) rfl rfl rfl rfl (by rfl) ?_ ?_ ?_; rotate_left 2; (· rintro w' hb'; go_simp; with_reducible rfl); (· simp only [Act.put, List.setIfInBounds_toArray, List.set_cons_zero, List.set_cons_succ, i64_w, i32_w]; rfl))
   | (refine atV_ (v := ?_) (a' := ?_) rfl rfl rfl rfl (by rfl) ?_ ?_ ?_; rotate_left 2; (· rintro w' hb'; have s0 := cell_ hb' hp6; have s1 := cell_ hb' hp7; have s2 := cell_ hb' hp8; have s3 := cell_ hb' hp15; have s4 := cell_ hb' hp16; have s5 := cell_ hb' hp17; go_simp; with_reducible rfl); (· simp only [Act.put, List.setIfInBounds_toArray, List.set_cons_zero, List.set_cons_succ, i64_w, i32_w]; rfl))
   | (refine atC_ (a' := ?_) (.agg #[.int .i64 v1, .int .i64 v2, .int .i64 v3]) rfl rfl Try.func82 rfl rfl rfl (by rfl) (by kernel_rfl) rfl #[.agg #[.int .i64 (rd_T72 q 2).f0, .int .i64 (rd_T72 q 2).f1, .int .i64 (rd_T72 q 2).f2], .agg #[.int .i64 (rd_T72 q 5).f0, .int .i64 (rd_T72 q 5).f1, .int .i64 (rd_T72 q 5).f2]] (by (try simp only [List.map_toArray, List.map_cons, List.map_nil]); rfl) ?_ ?_ ?_; rotate_left; (· rintro w' hb'; with_reducible refine (spec_CrossOf.calls k _ _ _ _ _ _ v1 v2 v3 _ HV.out).mono ?_; rintro e w1 ⟨rfl, hb1⟩; exact ⟨rfl, hb1⟩); (· simp only [Act.put, List.setIfInBounds_toArray, List.set_cons_zero, List.set_cons_succ, i64_w, i32_w]; rfl))
   | (refine atN_ #[.int .i64 0, .int .i64 0, .int .i64 0] 72 (some (8, #[.int .i64 v1, .int .i64 v2, .int .i64 v3])) rfl rfl rfl rfl (by rfl) ?_ ?_; (· rintro w' hb'; first | (go_simp; done) | (go_simp; rfl)))
   | (refine atS_ 0 rfl rfl rfl rfl rfl rfl (fun g => by rfl) ?_ ?_; (· rintro g w' hb' hg hn; have hs0 := (blk_cell hg 0).trans rfl; have hs1 := (blk_cell hg 1).trans rfl; have hs2 := (blk_cell hg 2).trans rfl; have hf0 := blk_frozen hg 0; have hf1 := blk_frozen hg 1; have hf2 := blk_frozen hg 2; refine ⟨_, ?_, (mut3_ hg _ _ _).1, (mut3_ hg _ _ _).2⟩; first | (go_simp; done) | (go_simp; rfl))))
  refine atEnd_ ?_
  intro x3 hb5 g3 _ h1 _
  refine done_ (by kernel_rfl) ?_
  have hg30 : x3.cell? ⟨g3, 0, none⟩ = some (.int .i64 v1) := by simp [World.cell?, h1, contE]
  have hg31 : x3.cell? ⟨g3, 1, none⟩ = some (.int .i64 v2) := by simp [World.cell?, h1, contE]
  have hg32 : x3.cell? ⟨g3, 2, none⟩ = some (.int .i64 v3) := by simp [World.cell?, h1, contE]
  replace hg10 := cell_ hb5 hg10
  replace hg11 := cell_ hb5 hg11
  replace hg12 := cell_ hb5 hg12
  replace hg20 := cell_ hb5 hg20
  replace hg21 := cell_ hb5 hg21
  replace hg22 := cell_ hb5 hg22
  have m0_ := Aside0.mk (below_then HB.out (below_size HB.out) hb5)
  clear HB hb5 h1 HV hp6 hp7 hp8 hp15 hp16 hp17
  have HB := m0_
  clear m0_
  cases b1 with
  | true =>
   obtain rfl := Option.some.inj (show some false = some r from by have := HF.out; rwa [if_pos rfl] at this)
   clear HF
   go_wp2_with (first
    | (go_at_call 123; (with_reducible refine (spec_l26Equal.calls k _ _ _ _ _ _ true _ HE0.out).mono ?_); rintro e w9 ⟨rfl, hb9⟩; have m0_ := Aside0.mk (below_step HB.out hb9); clear HB; have HB := m0_; clear m0_; have m0 := cell_ hb9 hg10; clear hg10; have hg10 := m0; clear m0; have m1 := cell_ hb9 hg11; clear hg11; have hg11 := m1; clear m1; have m2 := cell_ hb9 hg12; clear hg12; have hg12 := m2; clear m2; have m3 := cell_ hb9 hg20; clear hg20; have hg20 := m3; clear m3; have m4 := cell_ hb9 hg21; clear hg21; have hg21 := m4; clear m4; have m5 := cell_ hb9 hg22; clear hg22; have hg22 := m5; clear m5; have m6 := cell_ hb9 hg30; clear hg30; have hg30 := m6; clear m6; have m7 := cell_ hb9 hg31; clear hg31; have hg31 := m7; clear m7; have m8 := cell_ hb9 hg32; clear hg32; have hg32 := m8; clear m8; clear hb9))
   go_ret
   exact ⟨rfl, HB.out⟩
  | false =>
   have h := HF.out
   rw [if_neg (by decide)] at h
   obtain ⟨b2, hb_, h⟩ := Option.bind_eq_some_iff.mp h
   have HE1 := Aside0.mk (show spec_l26Equal.f k t1 t2 t3 v1 v2 v3 = some b2 from hb_)
   clear HF hb_
   have HF := Aside0.mk h
   clear h
   cases b2 with
   | true =>
    obtain rfl := Option.some.inj (show some false = some r from by have := HF.out; rwa [if_pos rfl] at this)
    clear HF
    go_wp2_with (first
     | (go_at_call 123; (with_reducible refine (spec_l26Equal.calls k _ _ _ _ _ _ false _ HE0.out).mono ?_); rintro e w9 ⟨rfl, hb9⟩; have m0_ := Aside0.mk (below_step HB.out hb9); clear HB; have HB := m0_; clear m0_; have m0 := cell_ hb9 hg10; clear hg10; have hg10 := m0; clear m0; have m1 := cell_ hb9 hg11; clear hg11; have hg11 := m1; clear m1; have m2 := cell_ hb9 hg12; clear hg12; have hg12 := m2; clear m2; have m3 := cell_ hb9 hg20; clear hg20; have hg20 := m3; clear m3; have m4 := cell_ hb9 hg21; clear hg21; have hg21 := m4; clear m4; have m5 := cell_ hb9 hg22; clear hg22; have hg22 := m5; clear m5; have m6 := cell_ hb9 hg30; clear hg30; have hg30 := m6; clear m6; have m7 := cell_ hb9 hg31; clear hg31; have hg31 := m7; clear m7; have m8 := cell_ hb9 hg32; clear hg32; have hg32 := m8; clear m8; clear hb9)
     | (go_at_call 123; (with_reducible refine (spec_l26Equal.calls k _ _ _ _ _ _ true _ HE1.out).mono ?_); rintro e w9 ⟨rfl, hb9⟩; have m0_ := Aside0.mk (below_step HB.out hb9); clear HB; have HB := m0_; clear m0_; have m0 := cell_ hb9 hg10; clear hg10; have hg10 := m0; clear m0; have m1 := cell_ hb9 hg11; clear hg11; have hg11 := m1; clear m1; have m2 := cell_ hb9 hg12; clear hg12; have hg12 := m2; clear m2; have m3 := cell_ hb9 hg20; clear hg20; have hg20 := m3; clear m3; have m4 := cell_ hb9 hg21; clear hg21; have hg21 := m4; clear m4; have m5 := cell_ hb9 hg22; clear hg22; have hg22 := m5; clear m5; have m6 := cell_ hb9 hg30; clear hg30; have hg30 := m6; clear m6; have m7 := cell_ hb9 hg31; clear hg31; have hg31 := m7; clear m7; have m8 := cell_ hb9 hg32; clear hg32; have hg32 := m8; clear m8; clear hb9))
    go_ret
    exact ⟨rfl, HB.out⟩
   | false =>
    have h := HF.out
    rw [if_neg (by decide)] at h
    obtain ⟨b3, hb_, h⟩ := Option.bind_eq_some_iff.mp h
    have HE2 := Aside0.mk (show spec_l26Equal.f k u1 u2 u3' v1 v2 v3 = some b3 from hb_)
    clear HF hb_
    have HF := Aside0.mk h
    clear h
    cases b3 with
    | true =>
     obtain rfl := Option.some.inj (show some false = some r from by have := HF.out; rwa [if_pos rfl] at this)
     clear HF
     go_wp2_with (first
      | (go_at_call 123; (with_reducible refine (spec_l26Equal.calls k _ _ _ _ _ _ false _ HE0.out).mono ?_); rintro e w9 ⟨rfl, hb9⟩; have m0_ := Aside0.mk (below_step HB.out hb9); clear HB; have HB := m0_; clear m0_; have m0 := cell_ hb9 hg10; clear hg10; have hg10 := m0; clear m0; have m1 := cell_ hb9 hg11; clear hg11; have hg11 := m1; clear m1; have m2 := cell_ hb9 hg12; clear hg12; have hg12 := m2; clear m2; have m3 := cell_ hb9 hg20; clear hg20; have hg20 := m3; clear m3; have m4 := cell_ hb9 hg21; clear hg21; have hg21 := m4; clear m4; have m5 := cell_ hb9 hg22; clear hg22; have hg22 := m5; clear m5; have m6 := cell_ hb9 hg30; clear hg30; have hg30 := m6; clear m6; have m7 := cell_ hb9 hg31; clear hg31; have hg31 := m7; clear m7; have m8 := cell_ hb9 hg32; clear hg32; have hg32 := m8; clear m8; clear hb9)
      | (go_at_call 123; (with_reducible refine (spec_l26Equal.calls k _ _ _ _ _ _ false _ HE1.out).mono ?_); rintro e w9 ⟨rfl, hb9⟩; have m0_ := Aside0.mk (below_step HB.out hb9); clear HB; have HB := m0_; clear m0_; have m0 := cell_ hb9 hg10; clear hg10; have hg10 := m0; clear m0; have m1 := cell_ hb9 hg11; clear hg11; have hg11 := m1; clear m1; have m2 := cell_ hb9 hg12; clear hg12; have hg12 := m2; clear m2; have m3 := cell_ hb9 hg20; clear hg20; have hg20 := m3; clear m3; have m4 := cell_ hb9 hg21; clear hg21; have hg21 := m4; clear m4; have m5 := cell_ hb9 hg22; clear hg22; have hg22 := m5; clear m5; have m6 := cell_ hb9 hg30; clear hg30; have hg30 := m6; clear m6; have m7 := cell_ hb9 hg31; clear hg31; have hg31 := m7; clear m7; have m8 := cell_ hb9 hg32; clear hg32; have hg32 := m8; clear m8; clear hb9)
      | (go_at_call 123; (with_reducible refine (spec_l26Equal.calls k _ _ _ _ _ _ true _ HE2.out).mono ?_); rintro e w9 ⟨rfl, hb9⟩; have m0_ := Aside0.mk (below_step HB.out hb9); clear HB; have HB := m0_; clear m0_; have m0 := cell_ hb9 hg10; clear hg10; have hg10 := m0; clear m0; have m1 := cell_ hb9 hg11; clear hg11; have hg11 := m1; clear m1; have m2 := cell_ hb9 hg12; clear hg12; have hg12 := m2; clear m2; have m3 := cell_ hb9 hg20; clear hg20; have hg20 := m3; clear m3; have m4 := cell_ hb9 hg21; clear hg21; have hg21 := m4; clear m4; have m5 := cell_ hb9 hg22; clear hg22; have hg22 := m5; clear m5; have m6 := cell_ hb9 hg30; clear hg30; have hg30 := m6; clear m6; have m7 := cell_ hb9 hg31; clear hg31; have hg31 := m7; clear m7; have m8 := cell_ hb9 hg32; clear hg32; have hg32 := m8; clear m8; clear hb9))
     go_ret
     exact ⟨rfl, HB.out⟩
    | false =>
     have h := HF.out
     rw [if_neg (by decide)] at h
     have HON := Aside0.mk (show spec_AreOnOne.f t1 t2 t3 u1 u2 u3' v1 v2 v3 = some r from h)
     clear HF h
     go_wp2_with (first
      | (go_at_call 123; (with_reducible refine (spec_l26Equal.calls k _ _ _ _ _ _ false _ HE0.out).mono ?_); rintro e w9 ⟨rfl, hb9⟩; have m0_ := Aside0.mk (below_step HB.out hb9); clear HB; have HB := m0_; clear m0_; have m0 := cell_ hb9 hg10; clear hg10; have hg10 := m0; clear m0; have m1 := cell_ hb9 hg11; clear hg11; have hg11 := m1; clear m1; have m2 := cell_ hb9 hg12; clear hg12; have hg12 := m2; clear m2; have m3 := cell_ hb9 hg20; clear hg20; have hg20 := m3; clear m3; have m4 := cell_ hb9 hg21; clear hg21; have hg21 := m4; clear m4; have m5 := cell_ hb9 hg22; clear hg22; have hg22 := m5; clear m5; have m6 := cell_ hb9 hg30; clear hg30; have hg30 := m6; clear m6; have m7 := cell_ hb9 hg31; clear hg31; have hg31 := m7; clear m7; have m8 := cell_ hb9 hg32; clear hg32; have hg32 := m8; clear m8; clear hb9)
      | (go_at_call 123; (with_reducible refine (spec_l26Equal.calls k _ _ _ _ _ _ false _ HE1.out).mono ?_); rintro e w9 ⟨rfl, hb9⟩; have m0_ := Aside0.mk (below_step HB.out hb9); clear HB; have HB := m0_; clear m0_; have m0 := cell_ hb9 hg10; clear hg10; have hg10 := m0; clear m0; have m1 := cell_ hb9 hg11; clear hg11; have hg11 := m1; clear m1; have m2 := cell_ hb9 hg12; clear hg12; have hg12 := m2; clear m2; have m3 := cell_ hb9 hg20; clear hg20; have hg20 := m3; clear m3; have m4 := cell_ hb9 hg21; clear hg21; have hg21 := m4; clear m4; have m5 := cell_ hb9 hg22; clear hg22; have hg22 := m5; clear m5; have m6 := cell_ hb9 hg30; clear hg30; have hg30 := m6; clear m6; have m7 := cell_ hb9 hg31; clear hg31; have hg31 := m7; clear m7; have m8 := cell_ hb9 hg32; clear hg32; have hg32 := m8; clear m8; clear hb9)
      | (go_at_call 123; (with_reducible refine (spec_l26Equal.calls k _ _ _ _ _ _ false _ HE2.out).mono ?_); rintro e w9 ⟨rfl, hb9⟩; have m0_ := Aside0.mk (below_step HB.out hb9); clear HB; have HB := m0_; clear m0_; have m0 := cell_ hb9 hg10; clear hg10; have hg10 := m0; clear m0; have m1 := cell_ hb9 hg11; clear hg11; have hg11 := m1; clear m1; have m2 := cell_ hb9 hg12; clear hg12; have hg12 := m2; clear m2; have m3 := cell_ hb9 hg20; clear hg20; have hg20 := m3; clear m3; have m4 := cell_ hb9 hg21; clear hg21; have hg21 := m4; clear m4; have m5 := cell_ hb9 hg22; clear hg22; have hg22 := m5; clear m5; have m6 := cell_ hb9 hg30; clear hg30; have hg30 := m6; clear m6; have m7 := cell_ hb9 hg31; clear hg31; have hg31 := m7; clear m7; have m8 := cell_ hb9 hg32; clear hg32; have hg32 := m8; clear m8; clear hb9)
      | (go_at_call 84; (with_reducible refine (spec_AreOnOne.calls _ _ _ _ _ _ _ _ _ r _ HON.out).mono ?_); rintro e w9 ⟨rfl, hb9⟩; have m0_ := Aside0.mk (below_step HB.out hb9); clear HB; have HB := m0_; clear m0_; clear hb9))
     go_ret
     exact ⟨rfl, HB.out⟩
theorem spec_ArePerspective.mono : ∀ a0 k, LeO (spec_ArePerspective.f k a0) (spec_ArePerspective.f (k + 1) a0) := by
 intro a0 k
 unfold spec_ArePerspective.f crossS
 repeat' first
  | (with_reducible exact spec_DesarguesOf.mono _ _)
  | (with_reducible exact spec_l26Six.mono _ _)
  | (with_reducible exact spec_CrossOf.mono _ _ _ _ _ _ _)
  | (with_reducible exact spec_l26Equal.mono _ _ _ _ _ _ _)
  | (with_reducible exact LeO.refl _)
  | (with_reducible exact LeO.none _)
  | (with_reducible refine LeO.ite ?_ ?_)
  | (with_reducible refine LeO.bind ?_ (fun _ => ?_))

end Go.Proofs.Ytldcckcljjlglaa.P

namespace Go.Proofs.Ytldcckcljjlglaa.P
open Go.RowKit Go.Proofs.YtldcckcljjlglaaW.PrintWords Go.Proofs.YtldcckcljjlglaaW.PrintLast Go.Proofs.YtldcckcljjlglaaW.PrintMore
attribute [local go_sem] max2_int min2_int max_two min_two max_three min_three max_four min_four   -- for this text's walks alone
set_option linter.unusedVariables false
set_option linter.unusedSimpArgs false

/-! ### laws_toPoint: function 124 -/
def laws_toPoint.f (a0_0 : Int) (a0_1 : Int) : Option (Int × Int) := some (a0_0, a0_1)
set_option maxHeartbeats 8000000 in
set_option maxRecDepth 100000 in
theorem laws_toPoint.calls (a0_0 : Int) (a0_1 : Int) (r1 : Int) (r2 : Int) (w : World) (h : laws_toPoint.f a0_0 a0_1 = some (r1, r2)) :
  Calls Try.prog 124 #[.agg #[.int .i64 a0_0, .int .i64 a0_1]] w fun e w' => e = .returned (.agg #[.int .i64 r1, .int .i64 r2]) ∧ Below w.heap.size w w' := by
 have hu114 := Try.underlying114
 have hu80 := Try.underlying80
 have HB := Aside0.mk (Below.refl w.heap.size w)
 have H : (some (a0_0, a0_1)) = some (r1, r2) := h
 clear h
 simp only [Option.some.injEq, Prod.mk.injEq] at H
 obtain ⟨rfl, rfl⟩ := H
 go_enter Try.func124, Try.ntmps124
 go_wp2_with (first | ((with_reducible refine gate_dst (N := 1) rfl ?_); refine box_event ?hg (N := 1) ?hd (cs := #[.int .i64 a0_0, .int .i64 a0_1]) (t := 114) ?hr ?_; (case hd => rfl); (case hg => rfl); (case hr => first | (go_simp; done) | (go_simp; rfl)); intro gb101 hg w2 hbox hb; have n0_ := Aside0.mk (below_step (by repeat (first | (with_reducible first | exact HB.out | apply below_alloc | apply pw_below_drewN | apply below_drew1) | exact HB.out)) hb); have n1_ := Aside0.mk (hbox); have n2_ := Aside0.mk ((by rw [hg]; exact (below_size (by repeat (first | (with_reducible first | exact HB.out | apply below_alloc | apply pw_below_drewN | apply below_drew1) | exact HB.out))) : w.heap.size ≤ gb101)); have n3_ := Aside0.mk ((by rw [hg]; exact (below_size (by repeat (first | (with_reducible first | exact HB.out | apply below_alloc | apply pw_below_drewN | apply below_drew1) | exact HB.out))) : w.heap.size ≤ gb101)); clear HB; have HB := n0_; have BK101 := n1_; have GW101 := n2_; have GE101 := n3_; clear n0_ n1_ n2_ n3_; clear hb hbox hg) | ((with_reducible refine gate_dst (N := 2) rfl ?_); refine box_event ?hg (N := 2) ?hd (cs := #[.int .i64 0, .int .i64 0]) (t := 80) ?hr ?_; (case hd => rfl); (case hg => rfl); (case hr => first | (go_simp; done) | (go_simp; rfl)); intro gb102 hg w3 hbox hb; have n0_ := Aside0.mk (blk_below (g := gb101) (o := .cells #[.int .i64 a0_0, .int .i64 a0_1] 114 (0, 0)) (by (with_reducible repeat (first | refine blk_drewN ?_ _ | refine blk_drew ?_ | refine blk_alloc ?_ _)); exact BK101.out) hb); have n1_ := Aside0.mk (below_step (by repeat (first | (with_reducible first | exact HB.out | apply below_alloc | apply pw_below_drewN | apply below_drew1 | refine below_set ?_ GE101.out) | exact HB.out)) hb); have n2_ := Aside0.mk (hbox); have n3_ := Aside0.mk ((by rw [hg]; exact (below_size (by repeat (first | (with_reducible first | exact HB.out | apply below_alloc | apply pw_below_drewN | apply below_drew1 | refine below_set ?_ GE101.out) | exact HB.out))) : w.heap.size ≤ gb102)); have n4_ := Aside0.mk ((by rw [hg]; exact (below_size (by repeat (first | (with_reducible first | exact HB.out | apply below_alloc | apply pw_below_drewN | apply below_drew1 | refine below_set ?_ GE101.out) | exact HB.out))) : w.heap.size ≤ gb102)); have n5_ := Aside0.mk ((by rw [hg]; exact Nat.ne_of_lt (blk_lt (g := gb101) (o := .cells #[.int .i64 a0_0, .int .i64 a0_1] 114 (0, 0)) (by (with_reducible repeat (first | refine blk_drewN ?_ _ | refine blk_drew ?_ | refine blk_alloc ?_ _)); exact BK101.out)) : gb101 ≠ gb102)); have n6_ := Aside0.mk ((by rw [hg]; exact Nat.ne_of_gt (blk_lt (g := gb101) (o := .cells #[.int .i64 a0_0, .int .i64 a0_1] 114 (0, 0)) (by (with_reducible repeat (first | refine blk_drewN ?_ _ | refine blk_drew ?_ | refine blk_alloc ?_ _)); exact BK101.out)) : gb102 ≠ gb101)); clear BK101; clear HB; have BK101 := n0_; have HB := n1_; have BK102 := n2_; have GW102 := n3_; have GE102 := n4_; have NB101_102 := n5_; have NB102_101 := n6_; clear n0_ n1_ n2_ n3_ n4_ n5_ n6_; clear hb hbox hg) | ((with_reducible refine gate_dst (N := 3) rfl ?_); refine box_event ?hg (N := 3) ?hd (cs := #[.int .i64 0, .int .i64 0]) (t := 80) ?hr ?_; (case hd => rfl); (case hg => rfl); (case hr => first | (go_simp; done) | (go_simp; rfl)); intro gb103 hg w4 hbox hb; have n0_ := Aside0.mk (blk_below (g := gb101) (o := .cells #[.int .i64 a0_0, .int .i64 a0_1] 114 (0, 0)) (by (with_reducible repeat (first | refine blk_drewN ?_ _ | refine blk_drew ?_ | refine blk_alloc ?_ _)); exact BK101.out) hb); have n1_ := Aside0.mk (blk_below (g := gb102) (o := .cells #[.int .i64 0, .int .i64 0] 80 (0, 0)) (by (with_reducible repeat (first | refine blk_drewN ?_ _ | refine blk_drew ?_ | refine blk_alloc ?_ _)); exact BK102.out) hb); have n2_ := Aside0.mk (below_step (by repeat (first | (with_reducible first | exact HB.out | apply below_alloc | apply pw_below_drewN | apply below_drew1 | refine below_set ?_ GE101.out | refine below_set ?_ GE102.out) | exact HB.out)) hb); have n3_ := Aside0.mk (hbox); have n4_ := Aside0.mk ((by rw [hg]; exact (below_size (by repeat (first | (with_reducible first | exact HB.out | apply below_alloc | apply pw_below_drewN | apply below_drew1 | refine below_set ?_ GE101.out | refine below_set ?_ GE102.out) | exact HB.out))) : w.heap.size ≤ gb103)); have n5_ := Aside0.mk ((by rw [hg]; exact (below_size (by repeat (first | (with_reducible first | exact HB.out | apply below_alloc | apply pw_below_drewN | apply below_drew1 | refine below_set ?_ GE101.out | refine below_set ?_ GE102.out) | exact HB.out))) : w.heap.size ≤ gb103)); have n6_ := Aside0.mk ((by rw [hg]; exact Nat.ne_of_lt (blk_lt (g := gb101) (o := .cells #[.int .i64 a0_0, .int .i64 a0_1] 114 (0, 0)) (by (with_reducible repeat (first | refine blk_drewN ?_ _ | refine blk_drew ?_ | refine blk_alloc ?_ _)); exact BK101.out)) : gb101 ≠ gb103)); have n7_ := Aside0.mk ((by rw [hg]; exact Nat.ne_of_gt (blk_lt (g := gb101) (o := .cells #[.int .i64 a0_0, .int .i64 a0_1] 114 (0, 0)) (by (with_reducible repeat (first | refine blk_drewN ?_ _ | refine blk_drew ?_ | refine blk_alloc ?_ _)); exact BK101.out)) : gb103 ≠ gb101)); have n8_ := Aside0.mk ((by rw [hg]; exact Nat.ne_of_lt (blk_lt (g := gb102) (o := .cells #[.int .i64 0, .int .i64 0] 80 (0, 0)) (by (with_reducible repeat (first | refine blk_drewN ?_ _ | refine blk_drew ?_ | refine blk_alloc ?_ _)); exact BK102.out)) : gb102 ≠ gb103)); have n9_ := Aside0.mk ((by rw [hg]; exact Nat.ne_of_gt (blk_lt (g := gb102) (o := .cells #[.int .i64 0, .int .i64 0] 80 (0, 0)) (by (with_reducible repeat (first | refine blk_drewN ?_ _ | refine blk_drew ?_ | refine blk_alloc ?_ _)); exact BK102.out)) : gb103 ≠ gb102)); clear BK101; clear BK102; clear HB; have BK101 := n0_; have BK102 := n1_; have HB := n2_; have BK103 := n3_; have GW103 := n4_; have GE103 := n5_; have NB101_103 := n6_; have NB103_101 := n7_; have NB102_103 := n8_; have NB103_102 := n9_; clear n0_ n1_ n2_ n3_ n4_ n5_ n6_ n7_ n8_ n9_; clear hb hbox hg; have hnb5 := NB101_102.out; have hnc5 := NB102_101.out; have hnb6 := NB101_103.out; have hnc6 := NB103_101.out; have hcz7_0 : w4.cell? ⟨gb101, 0, none⟩ = some (.int .i64 a0_0) := (blk_cell BK101.out 0).trans rfl; have hcz7_1 : w4.cell? ⟨gb101, 1, none⟩ = some (.int .i64 a0_1) := (blk_cell BK101.out 1).trans rfl; have hfz7_0 := blk_frozen BK101.out 0; have hfz7_1 := blk_frozen BK101.out 1; have hnb8 := NB103_102.out; have hnc8 := NB102_103.out; have hcz9_0 : w4.cell? ⟨gb103, 0, none⟩ = some (.int .i64 0) := (blk_cell BK103.out 0).trans rfl; have hcz9_1 : w4.cell? ⟨gb103, 1, none⟩ = some (.int .i64 0) := (blk_cell BK103.out 1).trans rfl; have hfz9_0 := blk_frozen BK103.out 0; have hfz9_1 := blk_frozen BK103.out 1; have hcz10_0 : w4.cell? ⟨gb102, 0, none⟩ = some (.int .i64 0) := (blk_cell BK102.out 0).trans rfl; have hcz10_1 : w4.cell? ⟨gb102, 1, none⟩ = some (.int .i64 0) := (blk_cell BK102.out 1).trans rfl; have hfz10_0 := blk_frozen BK102.out 0; have hfz10_1 := blk_frozen BK102.out 1))
 refine bodyPost_ret (results_cell_row rfl _ _ gb102 80 #[.int .i64 a0_0, .int .i64 a0_1] (0, 0) _ rfl (by (with_reducible repeat (first | refine blk_drewN ?_ _ | refine blk_drew ?_ | refine blk_alloc ?_ _)); refine blk_put (cs := #[.int .i64 a0_0, .int .i64 0]) ?_ 1 _ rfl; (with_reducible repeat (first | refine blk_drewN ?_ _ | refine blk_drew ?_ | refine blk_alloc ?_ _)); refine blk_put (cs := #[.int .i64 0, .int .i64 0]) ?_ 0 _ rfl; (with_reducible repeat (first | refine blk_drewN ?_ _ | refine blk_drew ?_ | refine blk_alloc ?_ _)); refine blk_far ?_ NB102_103.out _; (with_reducible repeat (first | refine blk_drewN ?_ _ | refine blk_drew ?_ | refine blk_alloc ?_ _)); refine blk_far ?_ NB102_103.out _; (with_reducible repeat (first | refine blk_drewN ?_ _ | refine blk_drew ?_ | refine blk_alloc ?_ _)); exact BK102.out) Try.underlying80 rfl (by kernel_rfl)) rfl ?_
 exact ⟨by first | rfl | (simp [errW_none, errW_some] <;> rfl) | (simp [*, errW_none, errW_some] <;> rfl), by repeat (first | (with_reducible first | exact HB.out | apply below_alloc | apply pw_below_drewN | apply below_drew1 | refine below_set ?_ GE101.out | refine below_set ?_ GE102.out | refine below_set ?_ GE103.out) | exact HB.out)⟩

end Go.Proofs.Ytldcckcljjlglaa.P

namespace Go.Proofs.Ytldcckcljjlglaa.P
open Go.RowKit Go.Proofs.YtldcckcljjlglaaW.PrintWords Go.Proofs.YtldcckcljjlglaaW.PrintLast Go.Proofs.YtldcckcljjlglaaW.PrintMore
attribute [local go_sem] max2_int min2_int max_two min_two max_three min_three max_four min_four   -- for this text's walks alone
set_option linter.unusedVariables false
set_option linter.unusedSimpArgs false

/-! ### laws_toPointS: function 65 -/
def laws_toPointS.l0 : Nat → List (S114) → List (S80) → Int → Option ((List (S80)))
 | 0, _, _, _ => none
 | k + 1, x0, x3, x4 => if x4 < (x0.length : Int) then (if 0 ≤ x4 then ((laws_toPoint.f ((rd_T114 x0 x4).f0) ((rd_T114 x0 x4).f1)).bind fun bt105 => (if x4 < (x3.length : Int) then (laws_toPointS.l0 k x0 (x3.set (x4 : Int).toNat (⟨bt105.1, bt105.2⟩ : S80)) (wrap64 (x4 + 1))) else (none))) else (none)) else (some x3)
def laws_toPointS.f (k : Nat) (l0 : List (S114)) : Option ((List (S80))) := if 0 ≤ (l0.length : Int) then (if ((l0.length : Int) : Int).toNat ≤ 17592186044416 then (laws_toPointS.l0 k l0 (List.replicate ((l0.length : Int) : Int).toNat z80) 0) else (none)) else (none)
theorem laws_toPointS.mono_l : ∀ k, (∀ y0 y1 y2, LeO (laws_toPointS.l0 k y0 y1 y2) (laws_toPointS.l0 (k + 1) y0 y1 y2))
 | 0 => fun _ _ _ r h => by simp [laws_toPointS.l0] at h
 | k + 1 => by
  have ih0 := laws_toPointS.mono_l k
  ·intro y0 y1 y2
   unfold laws_toPointS.l0
   repeat' first
   | (with_reducible exact ih0 _ _ _)
   | (with_reducible exact LeO.refl _)
   | (with_reducible exact LeO.none _)
   | (with_reducible refine LeO.ite ?_ ?_)
   | (with_reducible refine LeO.bind ?_ (fun _ => ?_))
   | exact ih0 _ _ _
   | exact LeO.none _
   | refine LeO.ite ?_ ?_
   | refine LeO.bind ?_ (fun _ => ?_)
theorem laws_toPointS.mono : ∀ a0 k, LeO (laws_toPointS.f k a0) (laws_toPointS.f (k + 1) a0) := by
 intro a0 k
 have ih0 := laws_toPointS.mono_l k
 unfold laws_toPointS.f
 repeat' first
   | (with_reducible exact ih0 _ _ _)
   | (with_reducible exact LeO.refl _)
   | (with_reducible exact LeO.none _)
   | (with_reducible refine LeO.ite ?_ ?_)
   | (with_reducible refine LeO.bind ?_ (fun _ => ?_))
   | exact ih0 _ _ _
   | exact LeO.none _
   | refine LeO.ite ?_ ?_
   | refine LeO.bind ?_ (fun _ => ?_)
set_option maxHeartbeats 8000000 in
set_option maxRecDepth 100000 in
theorem laws_toPointS.calls (k : Nat) (A0 : Option Addr) (c0 : Nat) (l0 : List (S114)) (r : List (S80)) (w : World) (hr0 : Kd.C k114 w A0 l0.length l0) (hc0 : l0.length ≤ c0) (h : laws_toPointS.f k l0 = some r) :
  Calls Try.prog 65 #[.slice A0 l0.length c0] w fun e w' => ∃ v0_ : Value, e = .returned (v0_) ∧ Kd.R k80 80 w' w.heap.size (fun _ => True) v0_ r ∧ Below w.heap.size w w' := by
 have hu114 := Try.underlying114
 have hu80 := Try.underlying80
 have HR0 := Aside0.mk hr0
 have HC0 := Aside0.mk hc0
 clear hr0 hc0
 have HB := Aside0.mk (Below.refl w.heap.size w)
 have H : (if 0 ≤ (l0.length : Int) then (if ((l0.length : Int) : Int).toNat ≤ 17592186044416 then (laws_toPointS.l0 k l0 (List.replicate ((l0.length : Int) : Int).toNat z80) 0) else (none)) else (none)) = some r := h
 clear h
 by_cases c2 : 0 ≤ (l0.length : Int)
 ·rw [if_pos c2] at H
  have c2b0 := eq_true c2
  have c2b1 : decide (0 ≤ (l0.length : Int)) = true := decide_eq_true c2
  clear c2
  by_cases c3 : ((l0.length : Int) : Int).toNat ≤ 17592186044416
  ·rw [if_pos c3] at H
   have c3b0 := eq_true c3
   have c3b1 : decide (((l0.length : Int) : Int).toNat ≤ 17592186044416) = true := decide_eq_true c3
   clear c3
   obtain ⟨y101, hy101⟩ : ∃ y_ : List (S80), y_ = (List.replicate ((l0.length : Int) : Int).toNat z80) := ⟨_, rfl⟩
   replace H : (laws_toPointS.l0 k l0 y101 0) = some r := by first | (rw [hy101]; with_reducible exact H) | (have H2_ := (Option.bind_some _ _).symm.trans H; rw [hy101]; with_reducible exact H2_) | (have H2_ := (Option.bind_some _ _).symm.trans H; with_reducible exact H2_) | with_reducible exact H | (rw [hy101]; exact H) | exact H
   have Ny101 := Aside0.mk hy101
   clear hy101
   have H' := Aside0.mk H
   clear H
   go_enter Try.func65, Try.ntmps65
   go_wp2_with (first | ((with_reducible refine gate_dst (N := 7) rfl ?_); refine Kd.R_make k80 _ 80 rfl (N := 7) rfl 61 _ _ rfl (l0.length : Int) rfl rfl Try.underlying61 (.agg #[(.int .i64 0), (.int .i64 0)]) 16 info80 rfl (by decide) (by omega) z80 (ok := fun _ => True) (okp := fun _ => True) (k80_mkM _ _ _ z80 ) (fun _ hk => hk) trivial (of_decide_eq_true (by first | (with_reducible assumption) | assumption)) (Nat.le_trans (Nat.mul_le_mul_right _ (of_decide_eq_true (by first | (with_reducible assumption) | assumption) : (l0.length : Int).toNat ≤ 17592186044416)) (by omega)) (Below.refl _ _) (Nat.le_refl _) ?_; intro v102 w4 ho5 hb hg_ hnew_; clear hg_ hnew_; (first | rw [← Ny101.out] at ho5 | (simp only [Int.reduceToNat] at ho5; rw [← Ny101.out] at ho5)); have n0_ := Aside0.mk (Kd.R_lower ho5 (below_size (by repeat (first | (with_reducible first | exact HB.out | apply below_alloc | apply pw_below_drewN | apply below_drew1) | exact HB.out)))); have n1_ := Aside0.mk (below_step (by repeat (first | (with_reducible first | exact HB.out | apply below_alloc | apply pw_below_drewN | apply below_drew1) | exact HB.out)) hb); clear HB; have HO103 := n0_; have HB := n1_; clear n0_ n1_; clear hb ho5))
   go_loopg [4] k (fun kq v4 w' => ∃ (x3_1 : List (S80)) (x4_1 : Int), v4 = .int .i64 x4_1 ∧ Aside0 (laws_toPointS.l0 kq l0 x3_1 x4_1 = some r) ∧ Aside0 (kq ≤ k) ∧ Aside0 (Kd.R k80 80 w' w.heap.size (fun _ => True) v102 x3_1) ∧ Aside0 (Below w.heap.size w w'))
   case atStart => exact ⟨(y101), (0), (by first | rfl | (simp; done) | (simp [*]; done)), H', ⟨Nat.le_refl _⟩, ⟨by (with_reducible repeat (first | apply Kd.R_alloc | apply Kd.R_drewN | apply Kd.R_drew)); exact HO103.out⟩, ⟨by repeat (first | (with_reducible first | exact HB.out | apply below_alloc | apply pw_below_drewN | apply below_drew1) | exact HB.out)⟩⟩
   case round =>
    clear H'
    try clear c2
    try clear c2b0
    try clear c2b1
    try clear p2
    try clear c3
    try clear c3b0
    try clear c3b1
    obtain ⟨x3_1, x4_1, rfl, HA, HK1, HO_3, HB⟩ := hrel
    cases gk with
    | zero => exact absurd HA.out (by simp [laws_toPointS.l0])
    | succ k1 =>
     have H := HA.out
     clear HA
     simp only [laws_toPointS.l0] at H
     by_cases c6 : x4_1 < (l0.length : Int)
     ·rw [if_pos c6] at H
      have c6b0 : decide (x4_1 < (l0.length : Int)) = true := decide_eq_true c6
      clear c6
      by_cases c7 : 0 ≤ x4_1
      ·rw [if_pos c7] at H
       have c7b0 : decide (0 ≤ x4_1) = true := decide_eq_true c7
       clear c7
       replace H := Option.bind_eq_some_iff.mp H
       obtain ⟨⟨t105, t106⟩, A80, H⟩ := H
       replace H : (if x4_1 < (x3_1.length : Int) then (laws_toPointS.l0 k1 l0 (x3_1.set (x4_1 : Int).toNat (⟨t105, t106⟩ : S80)) (wrap64 (x4_1 + 1))) else (none)) = some r := H
       have A8 := Aside0.mk A80
       clear A80
       by_cases c9 : x4_1 < (x3_1.length : Int)
       ·rw [if_pos c9] at H
        have c9b0 : decide (x4_1 < (x3_1.length : Int)) = true := decide_eq_true c9
        clear c9
        obtain ⟨y107, hy107⟩ : ∃ y_ : List (S80), y_ = (x3_1.set (x4_1 : Int).toNat (⟨t105, t106⟩ : S80)) := ⟨_, rfl⟩
        replace H : (laws_toPointS.l0 k1 l0 y107 (wrap64 (x4_1 + 1))) = some r := by first | (rw [hy107]; with_reducible exact H) | (have H2_ := (Option.bind_some _ _).symm.trans H; rw [hy107]; with_reducible exact H2_) | (have H2_ := (Option.bind_some _ _).symm.trans H; with_reducible exact H2_) | with_reducible exact H | (rw [hy107]; exact H) | exact H
        have Ny107 := Aside0.mk hy107
        clear hy107
        have H' := Aside0.mk H
        clear H
        have p104 : 0 ≤ (x4_1 : Int) := of_decide_eq_true (by first | (with_reducible assumption) | assumption)
        have q104 : x4_1 < (l0.length : Int) := of_decide_eq_true (by first | (with_reducible assumption) | assumption)
        obtain ⟨ad104, e104, hx104_0, hx104_1⟩ := at_T114 HR0.out x4_1 p104 q104
        cases e104
        replace hx104_0 := (HB.out.cell (World.block_lt_of_cell? w _ hx104_0)).trans hx104_0
        replace hx104_1 := (HB.out.cell (World.block_lt_of_cell? w _ hx104_1)).trans hx104_1
        replace p104 := eq_true p104
        replace q104 := eq_true q104
        go_wp2_with (first | ((with_reducible refine gate_callee (f := 124) rfl ?_); refine goesL_ (some 20) rfl rfl Try.func124 (by kernel_rfl) rfl #[.agg #[.int .i64 ((rd_T114 l0 x4_1).f0), .int .i64 ((rd_T114 l0 x4_1).f1)]] rfl (by (try simp only [List.map_toArray, List.map_cons, List.map_nil]); first | done | rfl | (simp only [List.length_drop, List.length_take]; rfl)) ?_; (with_reducible refine (laws_toPoint.calls ((rd_T114 l0 x4_1).f0) ((rd_T114 l0 x4_1).f1) t105 t106 _ A8.out).mono ?_); rintro e w11 ⟨rfl, hb⟩; refine ⟨_, rfl, ?_⟩; have n0_ := Aside0.mk (Kd.R_below (by (with_reducible repeat (first | apply Kd.R_alloc | apply Kd.R_drewN | apply Kd.R_drew)); exact HO_3.out) hb); have n1_ := Aside0.mk (below_step (by repeat (first | (with_reducible first | exact HB.out | apply below_alloc | apply pw_below_drewN | apply below_drew1) | exact HB.out)) hb); clear HO_3; clear HB; have HO_3 := n0_; have HB := n1_; clear n0_ n1_; (try clear hb); (try clear hb2); (try clear hk); (try clear hi); have p10 : 0 ≤ (x4_1 : Int) := of_decide_eq_true (by first | (with_reducible assumption) | assumption); have q10 : (x4_1 : Int) < ((x3_1.length : Int) : Int) := of_decide_eq_true (by first | (with_reducible assumption) | assumption); obtain ⟨go10, co10, eo10, gb10, gl10, cl10, HG10⟩ := Kd.R_form HO_3.out (by omega); (first | cases eo10 | (injection eo10 with ea_ en_ ec_; (first | subst ea_ | (injection ea_ with ea_; subst ea_)); subst ec_; clear en_)); have GB10 := Aside0.mk gb10; have GG10 := Aside0.mk HG10; clear gb10 gl10 HG10; obtain ⟨ce10, hcl10, hM10, hcc10, hfr10⟩ := Kd.R_elem HO_3.out z80 (x4_1 : Int) p10 q10; obtain rfl := k80_openM hM10; have hx10_0 : w11.cell? ⟨go10, (x4_1 : Int).toNat * 2, none⟩ = some (.int .i64 ((rd_T80 x3_1 x4_1).f0)) := hcc10 0 _ rfl; have hx10_1 : w11.cell? ⟨go10, (x4_1 : Int).toNat * 2 + 1, none⟩ = some (.int .i64 ((rd_T80 x3_1 x4_1).f1)) := hcc10 1 _ rfl; have hf10_0 : w11.frozen? ⟨go10, (x4_1 : Int).toNat * 2, none⟩ = false := hfr10 0; have hf10_1 : w11.frozen? ⟨go10, (x4_1 : Int).toNat * 2 + 1, none⟩ = false := hfr10 1; clear hcl10 hcc10 hfr10 hM10; replace p10 := eq_true p10; replace q10 := eq_true q10; have HX12 := Aside0.mk (show Kd.R k80 80 w11 w.heap.size (fun _ => True) (.slice (some ⟨go10, 0, none⟩) x3_1.length co10) x3_1 from (by (with_reducible repeat (first | apply Kd.R_alloc | apply Kd.R_drewN | apply Kd.R_drew)); exact HO_3.out)); obtain ⟨ce12, hcl12, hM12, hcc12, hfr12⟩ := Kd.R_elem HX12.out z80 (x4_1 : Int) (of_decide_eq_true (by first | (with_reducible assumption) | assumption)) (by have h_ : (x4_1 : Int) < ((x3_1.length : Int) : Int) := of_decide_eq_true (by first | (with_reducible assumption) | assumption); first | exact h_ | (have e_ := (Kd.R_reads' HO_3.out).1; omega) | simpa using h_); obtain rfl := k80_openM hM12; have HP12 := Kd.R_seg HX12.out (x4_1 : Int) (of_decide_eq_true (by first | (with_reducible assumption) | assumption)) (by have h_ : (x4_1 : Int) < ((x3_1.length : Int) : Int) := of_decide_eq_true (by first | (with_reducible assumption) | assumption); first | exact h_ | (have e_ := (Kd.R_reads' HO_3.out).1; omega) | simpa using h_) (seg := [.int .i64 t105, .int .i64 t106]) (j := 0) hcl12 hcc12 (show 2 ≤ 2 from by decide) (x' := (⟨t105, t106⟩ : S80)) (k80_mkM _ _ _ (⟨t105, t106⟩ : S80) ) (fun _ hk => hk); have hx12_0 := hcc12 0 _ rfl; (try simp only [show (k80).sz = 2 from rfl, Nat.mul_one, Nat.add_zero] at hx12_0); have hf12_0 := hfr12 0; (try simp only [show (k80).sz = 2 from rfl, Nat.mul_one, Nat.add_zero] at hf12_0); have hx12_1 := hcc12 1 _ rfl; (try simp only [show (k80).sz = 2 from rfl, Nat.mul_one, Nat.add_zero] at hx12_1); have hf12_1 := hfr12 1; (try simp only [show (k80).sz = 2 from rfl, Nat.mul_one, Nat.add_zero] at hf12_1); clear hcl12 hcc12 hfr12 hM12) | ((with_reducible refine gate_store (t := 80) (p := 21) rfl ?_); refine store_event (t := 80) (p := 21) (v := ?vo_w13) (w1 := ((w11.setCell ⟨go10, (x4_1 : Int).toNat * 2, none⟩ (.int .i64 t105)).setCell ⟨go10, (x4_1 : Int).toNat * 2 + 1, none⟩ (.int .i64 t106))) ?hg ?ho ?hn ?hr ?_; (case ho => rfl); (case hg => rfl); (case hn => rfl); (case hr => first | (go_simp; done) | (go_simp; rfl)); intro w13 hw; have hg : w11.grownBy w13 (some go10) := (by rw [hw]; exact HP12.2); have hp_ : Kd.R k80 80 w13 w.heap.size (fun _ => True) (.slice (some ⟨go10, 0, none⟩) x3_1.length co10) y107 := (by rw [hw, Ny107.out]; exact HP12.1); clear HP12; have n0_ := Aside0.mk (hp_); have n1_ := Aside0.mk ((by rw [hw]; exact below_set (below_set (HB.out) GB10.out) GB10.out : Below w.heap.size w w13)); clear HO_3; clear HB; have HO_3 := n0_; have HB := n1_; clear n0_ n1_; clear hg hw hp_))
        go_roundg k1
        case measure => have := HK1.out; omega
        case rel => exact ⟨(y107), (wrap64 (x4_1 + 1)), (by first | rfl | (simp; done) | (simp [*]; done)), H', ⟨by have := HK1.out; omega⟩, ⟨by (with_reducible repeat (first | apply Kd.R_alloc | apply Kd.R_drewN | apply Kd.R_drew)); exact HO_3.out⟩, ⟨by repeat (first | (with_reducible first | exact HB.out | apply below_alloc | apply pw_below_drewN | apply below_drew1) | exact HB.out)⟩⟩
       ·rw [if_neg c9] at H
        exact absurd H (by simp)
      ·rw [if_neg c7] at H
       exact absurd H (by simp)
     ·rw [if_neg c6] at H
      have c6b0 : decide (x4_1 < (l0.length : Int)) = false := decide_eq_false c6
      clear c6
      obtain rfl := Option.some.inj H
      go_wp2
      go_ret
      exact ⟨_, by first | rfl | (simp [errW_none, errW_some] <;> rfl) | (simp [*, errW_none, errW_some] <;> rfl), by (with_reducible repeat (first | apply Kd.R_alloc | apply Kd.R_drewN | apply Kd.R_drew)); exact HO_3.out, by repeat (first | (with_reducible first | exact HB.out | apply below_alloc | apply pw_below_drewN | apply below_drew1) | exact HB.out)⟩
  ·rw [if_neg c3] at H
   exact absurd H (by simp)
 ·rw [if_neg c2] at H
  exact absurd H (by simp)

end Go.Proofs.Ytldcckcljjlglaa.P

namespace Go.Proofs.Ytldcckcljjlglaa.P
open Go.RowKit Go.Proofs.YtldcckcljjlglaaW.PrintWords Go.Proofs.YtldcckcljjlglaaW.PrintLast Go.Proofs.YtldcckcljjlglaaW.PrintMore
attribute [local go_sem] max2_int min2_int max_two min_two max_three min_three max_four min_four   -- for this text's walks alone
set_option linter.unusedVariables false
set_option linter.unusedSimpArgs false

/-! ### impl_divisor: function 103 -/
mutual
def impl_divisor.l0 : Nat → Int → List Int → Int → Int → Option (Int)
 | 0, _, _, _, _ => none
 | k + 1, x3, x6, x7, x8 => if x8 < x7 then (if 0 ≤ x8 then (if x8 < (x6.length : Int) then (impl_divisor.l1 k x3 (rd x6 x8) x6 x7 x8) else (none)) else (none)) else (some (mx x3 (wrap64 (-x3))))
def impl_divisor.l1 : Nat → Int → Int → List Int → Int → Int → Option (Int)
 | 0, _, _, _, _, _ => none
 | k + 1, x3, x5, x6, x7, x8 => if x5 = 0 then (impl_divisor.l0 k x3 x6 x7 (wrap64 (x8 + 1))) else (impl_divisor.l1 k x5 (Int.tmod x3 x5) x6 x7 x8)
end
def impl_divisor.f (k : Nat) (l0 : List Int) : Option (Int) := impl_divisor.l0 k 0 l0 (l0.length : Int) 0
theorem impl_divisor.mono_l : ∀ k, (∀ y0 y1 y2 y3, LeO (impl_divisor.l0 k y0 y1 y2 y3) (impl_divisor.l0 (k + 1) y0 y1 y2 y3)) ∧ (∀ y0 y1 y2 y3 y4, LeO (impl_divisor.l1 k y0 y1 y2 y3 y4) (impl_divisor.l1 (k + 1) y0 y1 y2 y3 y4))
 | 0 => ⟨fun _ _ _ _ r h => by simp [impl_divisor.l0] at h, fun _ _ _ _ _ r h => by simp [impl_divisor.l1] at h⟩
 | k + 1 => by
  obtain ⟨ih0, ih1⟩ := impl_divisor.mono_l k
  refine ⟨?_, ?_⟩
  ·intro y0 y1 y2 y3
   unfold impl_divisor.l0
   repeat' first
   | (with_reducible exact ih0 _ _ _ _)
   | (with_reducible exact ih1 _ _ _ _ _)
   | (with_reducible exact LeO.refl _)
   | (with_reducible exact LeO.none _)
   | (with_reducible refine LeO.ite ?_ ?_)
   | (with_reducible refine LeO.bind ?_ (fun _ => ?_))
   | exact ih0 _ _ _ _
   | exact ih1 _ _ _ _ _
   | exact LeO.none _
   | refine LeO.ite ?_ ?_
   | refine LeO.bind ?_ (fun _ => ?_)
  ·intro y0 y1 y2 y3 y4
   unfold impl_divisor.l1
   repeat' first
   | (with_reducible exact ih0 _ _ _ _)
   | (with_reducible exact ih1 _ _ _ _ _)
   | (with_reducible exact LeO.refl _)
   | (with_reducible exact LeO.none _)
   | (with_reducible refine LeO.ite ?_ ?_)
   | (with_reducible refine LeO.bind ?_ (fun _ => ?_))
   | exact ih0 _ _ _ _
   | exact ih1 _ _ _ _ _
   | exact LeO.none _
   | refine LeO.ite ?_ ?_
   | refine LeO.bind ?_ (fun _ => ?_)
theorem impl_divisor.mono : ∀ a0 k, LeO (impl_divisor.f k a0) (impl_divisor.f (k + 1) a0) := by
 intro a0 k
 obtain ⟨ih0, ih1⟩ := impl_divisor.mono_l k
 unfold impl_divisor.f
 repeat' first
   | (with_reducible exact ih0 _ _ _ _)
   | (with_reducible exact ih1 _ _ _ _ _)
   | (with_reducible exact LeO.refl _)
   | (with_reducible exact LeO.none _)
   | (with_reducible refine LeO.ite ?_ ?_)
   | (with_reducible refine LeO.bind ?_ (fun _ => ?_))
   | exact ih0 _ _ _ _
   | exact ih1 _ _ _ _ _
   | exact LeO.none _
   | refine LeO.ite ?_ ?_
   | refine LeO.bind ?_ (fun _ => ?_)
set_option maxHeartbeats 8000000 in
set_option maxRecDepth 100000 in
theorem impl_divisor.calls (k : Nat) (A0 : Option Addr) (c0 : Nat) (l0 : List Int) (r : Int) (w : World) (hr0 : Kd.C (Kd.int .i64) w A0 l0.length l0) (hc0 : l0.length ≤ c0) (h : impl_divisor.f k l0 = some r) :
  Calls Try.prog 103 #[.slice A0 l0.length c0] w fun e w' => e = .returned (.int .i64 r) ∧ Below w.heap.size w w' := by
 have HR0 := Aside0.mk hr0
 have HC0 := Aside0.mk hc0
 clear hr0 hc0
 have HB := Aside0.mk (Below.refl w.heap.size w)
 have H : (impl_divisor.l0 k 0 l0 (l0.length : Int) 0) = some r := h
 clear h
 have H' := Aside0.mk H
 clear H
 go_enter Try.func103, Try.ntmps103
 go_wp2
 repeat (go_quiet (fail); try go_wp2)
 go_loopg [3, 8] k (fun kq v3 v8 w' => ∃ (x3_1 : Int) (x8_1 : Int), v3 = .int .i64 x3_1 ∧ v8 = .int .i64 x8_1 ∧ Aside0 (impl_divisor.l0 kq x3_1 l0 (l0.length : Int) x8_1 = some r) ∧ Aside0 (kq ≤ k) ∧ Aside0 (Below w.heap.size w w'))
 case atStart => exact ⟨(0), (0), (by first | rfl | (simp; done) | (simp [*]; done)), (by first | rfl | (simp; done) | (simp [*]; done)), H', ⟨Nat.le_refl _⟩, ⟨by repeat (first | (with_reducible first | exact HB.out | apply below_alloc | apply pw_below_drewN | apply below_drew1) | exact HB.out)⟩⟩
 case round =>
  clear H'
  try clear c1
  obtain ⟨x3_1, x8_1, rfl, rfl, HA, HK1, HB⟩ := hrel
  cases gk with
  | zero => exact absurd HA.out (by simp [impl_divisor.l0])
  | succ k1 =>
   have H := HA.out
   clear HA
   simp only [impl_divisor.l0] at H
   by_cases c2 : x8_1 < (l0.length : Int)
   ·rw [if_pos c2] at H
    have c2b0 : decide (x8_1 < (l0.length : Int)) = true := decide_eq_true c2
    clear c2
    by_cases c3 : 0 ≤ x8_1
    ·rw [if_pos c3] at H
     have c3b0 : decide (0 ≤ x8_1) = true := decide_eq_true c3
     clear c3
     by_cases c4 : x8_1 < (l0.length : Int)
     ·rw [if_pos c4] at H
      have c4b0 : decide (x8_1 < (l0.length : Int)) = true := decide_eq_true c4
      clear c4
      have H' := Aside0.mk H
      clear H
      have p101 : 0 ≤ (x8_1 : Int) := of_decide_eq_true (by first | (with_reducible assumption) | assumption)
      have q101 : x8_1 < (l0.length : Int) := of_decide_eq_true (by first | (with_reducible assumption) | assumption)
      obtain ⟨ad101, e101, hx101_0⟩ := Kd.at_int HR0.out x8_1 p101 q101
      cases e101
      replace hx101_0 := (HB.out.cell (World.block_lt_of_cell? w _ hx101_0)).trans hx101_0
      replace p101 := eq_true p101
      replace q101 := eq_true q101
      go_wp2
      repeat (go_quiet (fail); try go_wp2)
      go_loopg [3, 5] k1 (fun kq v3 v5 w' => ∃ (x3_2 : Int) (x5_2 : Int), v3 = .int .i64 x3_2 ∧ v5 = .int .i64 x5_2 ∧ Aside0 (impl_divisor.l1 kq x3_2 x5_2 l0 (l0.length : Int) x8_1 = some r) ∧ Aside0 (kq ≤ k1) ∧ Aside0 (Below w.heap.size w w'))
      case atStart => exact ⟨(x3_1), (rd l0 x8_1), (by first | rfl | (simp; done) | (simp [*]; done)), (by first | rfl | (simp; done) | (simp [*]; done)), H', ⟨Nat.le_refl _⟩, ⟨by repeat (first | (with_reducible first | exact HB.out | apply below_alloc | apply pw_below_drewN | apply below_drew1) | exact HB.out)⟩⟩
      case round =>
       clear H'
       try clear c1
       try clear p1
       try clear q1
       try clear hx1
       try clear c2
       try clear c2b0
       try clear p2
       try clear c3
       try clear c3b0
       try clear c4
       try clear c4b0
       try clear hx101_0
       try clear p101
       try clear q101
       obtain ⟨x3_2, x5_2, rfl, rfl, HA, HK2, HB⟩ := hrel
       cases gk with
       | zero => exact absurd HA.out (by simp [impl_divisor.l1])
       | succ k2 =>
        have H := HA.out
        clear HA
        simp only [impl_divisor.l1] at H
        by_cases c5 : x5_2 = 0
        ·rw [if_pos c5] at H
         have c5b0 : (x5_2 == 0) = true := beq_iff_eq.mpr c5
         have c5b1 : (x5_2 != 0) = false := bne_eq_false_iff_eq.mpr c5
         clear c5
         have H' := Aside0.mk H
         clear H
         go_wp2
         repeat (go_quiet (fail); try go_wp2)
         go_roundg k2
         case measure => have := HK1.out; have := HK2.out; omega
         case rel => exact ⟨(x3_2), (wrap64 (x8_1 + 1)), (by first | rfl | (simp; done) | (simp [*]; done)), (by first | rfl | (simp; done) | (simp [*]; done)), H', ⟨by have := HK1.out; have := HK2.out; omega⟩, ⟨by repeat (first | (with_reducible first | exact HB.out | apply below_alloc | apply pw_below_drewN | apply below_drew1) | exact HB.out)⟩⟩
        ·rw [if_neg c5] at H
         have c5b0 : (x5_2 == 0) = false := beq_eq_false_iff_ne.mpr c5
         have c5b1 : (x5_2 != 0) = true := bne_iff_ne.mpr c5
         have H' := Aside0.mk H
         clear H
         go_wp2
         repeat (go_quiet (fail); try go_wp2)
         go_roundg k2
         case measure => have := HK1.out; have := HK2.out; omega
         case rel => exact ⟨(x5_2), (Int.tmod x3_2 x5_2), (by first | rfl | (simp; done) | (simp [*]; done)), (by first | rfl | (simp; done) | (simp [*]; done)), H', ⟨by have := HK1.out; have := HK2.out; omega⟩, ⟨by repeat (first | (with_reducible first | exact HB.out | apply below_alloc | apply pw_below_drewN | apply below_drew1) | exact HB.out)⟩⟩
     ·rw [if_neg c4] at H
      exact absurd H (by simp)
    ·rw [if_neg c3] at H
     exact absurd H (by simp)
   ·rw [if_neg c2] at H
    have c2b0 : decide (x8_1 < (l0.length : Int)) = false := decide_eq_false c2
    clear c2
    obtain ⟨ji6, hji6⟩ : ∃ j_ : Int, (mx x3_1 (wrap64 (-x3_1))) = j_ := ⟨_, rfl⟩
    replace H : (some ji6) = some r := by first | (rw [hji6] at H; exact H) | (simp only [hji6] at H ⊢; exact H)
    have hji6_ : (if x3_1 < (wrap64 (-x3_1)) then (wrap64 (-x3_1)) else x3_1) = ji6 := hji6
    obtain rfl := Option.some.inj H
    go_wp2
    repeat (go_quiet (fail); try go_wp2)
    go_ret
    exact ⟨by first | rfl | (simp [errW_none, errW_some] <;> rfl) | (simp only [← hji6]; first | rfl | (simp [errW_none, errW_some] <;> rfl)) | (simp [*, errW_none, errW_some] <;> rfl), by repeat (first | (with_reducible first | exact HB.out | apply below_alloc | apply pw_below_drewN | apply below_drew1) | exact HB.out)⟩

end Go.Proofs.Ytldcckcljjlglaa.P

namespace Go.Proofs.Ytldcckcljjlglaa.P
open Go.RowKit Go.Proofs.YtldcckcljjlglaaW.PrintWords Go.Proofs.YtldcckcljjlglaaW.PrintLast Go.Proofs.YtldcckcljjlglaaW.PrintMore
attribute [local go_sem] max2_int min2_int max_two min_two max_three min_three max_four min_four   -- for this text's walks alone
set_option linter.unusedVariables false
set_option linter.unusedSimpArgs false

/-! ### impl_isFar: function 95 -/
def impl_isFar.f (a0 : Int) (a1 : Int) : Option (Bool) := if a0 < (wrap64 (-a1)) then (some true) else (some (decide (a0 > a1)))
set_option maxHeartbeats 8000000 in
set_option maxRecDepth 100000 in
theorem impl_isFar.calls (a0 : Int) (a1 : Int) (r : Bool) (w : World) (h : impl_isFar.f a0 a1 = some r) :
  Calls Try.prog 95 #[.int .i64 a0, .int .i64 a1] w fun e w' => e = .returned (.bool r) ∧ Drawn0 w w' := by
 have H : (if a0 < (wrap64 (-a1)) then (some true) else (some (decide (a0 > a1)))) = some r := h
 clear h
 by_cases c3 : a0 < (wrap64 (-a1))
 ·rw [if_pos c3] at H
  have c3b0 : decide (a0 < (wrap64 (-a1))) = true := decide_eq_true c3
  clear c3
  obtain rfl := Option.some.inj H
  go_enter Try.func95, Try.ntmps95
  go_wp2
  go_ret
  exact ⟨by first | rfl | (simp; done) | (simp [*]; done), by repeat (first | exact Drawn0.refl _ | apply Drawn0.step)⟩
 ·rw [if_neg c3] at H
  have c3b0 : decide (a0 < (wrap64 (-a1))) = false := decide_eq_false c3
  clear c3
  obtain rfl := Option.some.inj H
  go_enter Try.func95, Try.ntmps95
  go_wp2
  go_ret
  exact ⟨by first | rfl | (simp; done) | (simp [*]; done), by repeat (first | exact Drawn0.refl _ | apply Drawn0.step)⟩
def farB (n most : Int) : Bool := (impl_isFar.f n most).getD false
theorem isFar_some (n most : Int) : impl_isFar.f n most = some (farB n most) := by
 unfold farB impl_isFar.f; split <;> rfl
theorem isFar_is (n most : Int) {b : Bool} (h : farB n most = b) : impl_isFar.f n most = some b := by rw [isFar_some, h]

end Go.Proofs.Ytldcckcljjlglaa.P

namespace Go.Proofs.Ytldcckcljjlglaa.P
open Go.RowKit Go.Proofs.YtldcckcljjlglaaW.PrintWords Go.Proofs.YtldcckcljjlglaaW.PrintLast Go.Proofs.YtldcckcljjlglaaW.PrintMore
attribute [local go_sem] max2_int min2_int max_two min_two max_three min_three max_four min_four   -- for this text's walks alone
set_option linter.unusedVariables false
set_option linter.unusedSimpArgs false

/-! ### impl_Triple_170: function 170 -/
/-- What is asked of a predicate on elements of this kind. -/
def PredTriple (g : Nat) (lb : Array Value) (p : S72 → Bool) (w : World) : Prop :=
 ∀ (W : World) (x : S72), Below w.heap.size w W → Calls Try.prog g (#[.agg #[.int .i64 x.f0, .int .i64 x.f1, .int .i64 x.f2]] ++ lb) W fun e w' => e = .returned (.bool (p x)) ∧ Below W.heap.size W w'
def idxTriple (p : S72 → Bool) : List S72 → Nat → Int
 | [], _ => -1
 | x :: l, i => if p x then i else idxTriple p l (i + 1)
theorem idxTriple_skip (p : S72 → Bool) (l : List S72) (k i : Nat) (h : ∀ j, j < k → j < l.length → p (l.getD j z72) = false) (hk : k ≤ l.length) : idxTriple p l i = idxTriple p (l.drop k) (i + k) := by
 induction k generalizing l i with
 | zero => simp
 | succ k ih =>
  cases l with
  | nil => simp at hk
  | cons x l =>
   have hx : p x = false := by simpa using h 0 (by omega) (by simp)
   simp only [idxTriple, hx, List.drop_succ_cons]
   rw [if_neg (by decide), ih l (i + 1) (fun j hj hl => by simpa using h (j + 1) (by omega) (by simpa using hl)) (by simpa using hk)]
   simp [Nat.add_assoc, Nat.add_comm 1 k]
theorem idxTriple_any (p : S72 → Bool) (l : List S72) (i : Nat) : decide (0 ≤ idxTriple p l i) = l.any p := by
 induction l generalizing i with
 | nil => rfl
 | cons x l ih =>
  simp only [idxTriple, List.any_cons]
  by_cases h : p x = true
  ·simp [h]
  ·simp [h, ih]
set_option maxHeartbeats 1000000 in
set_option maxRecDepth 100000 in
theorem indexTriple_calls (g : Nat) (lb : Array Value) (eg : ∀ args w, (callFunc g args).run Try.prog w = .ok (.enter g args) w) (p : S72 → Bool) (A : Option Addr) (c : Nat) (l : List S72) (w : World) (hr : Kd.C k72 w A l.length l) (hc : l.length ≤ c) (hp : PredTriple g lb p w) :
  Calls Try.prog 170 #[.slice A l.length c, .func (.func g) #[] lb] w fun e w' => e = .returned (.int .i64 (idxTriple p l 0)) ∧ Below w.heap.size w w' := by
 have hu72 := Try.underlying72
 have hmax : l.length ≤ 9223372036854775807 := hr.2.1
 have HR := Aside0.mk hr
 have HP := Aside0.mk hp
 clear hr hp
 go_enter Try.func170, Try.ntmps170
 go_wp2_with fail
 go_loopg [5, 8] l.length (fun gg _ s8 wr => ∃ kk : Nat, kk ≤ l.length ∧ l.length - kk ≤ gg ∧ s8 = .int .i64 kk ∧ Aside0 (Below w.heap.size w wr) ∧ Aside0 (∀ j, j < kk → j < l.length → p (l.getD j z72) = false))
 case atStart => exact ⟨0, Nat.zero_le _, by omega, rfl, ⟨Below.refl _ w⟩, ⟨fun j hj => absurd hj (Nat.not_lt_zero _)⟩⟩
 case round =>
  obtain ⟨kk, hkk, hg, rfl, BW, AA⟩ := hrel
  by_cases hlt : kk < l.length
  ·have hltz : (kk : Int) < (l.length : Int) := by omega
   obtain ⟨ad, rfl, hx0, hx1, hx2⟩ := at_T72 (Kd.C_below HR.out BW.out) (kk : Int) (by omega) hltz
   simp only [Int.toNat_natCast] at hx0 hx1 hx2
   have hcall := HP.out wr (rd_T72 l (kk : Int)) BW.out
   have hrdk : rd_T72 l (kk : Int) = l.getD kk z72 := rfl
   generalize hy : rd_T72 l (kk : Int) = y at hx0 hx1 hx2 hcall hrdk
   have HY := Aside0.mk hrdk
   clear hrdk hy
   cases hq : p y with
   | true =>
    rw [hq] at hcall
    have HQ := Aside0.mk hq
    clear hq
    go_wp2_with (go_at_fn g; refine hcall.mono ?_; rintro e w' ⟨rfl, hb'⟩)
    go_ret
    refine ⟨?_, below_step BW.out hb'⟩
    rw [idxTriple_skip p l kk 0 AA.out hkk, List.drop_eq_getElem_cons hlt]
    have hyy : l[kk] = y := by rw [HY.out]; simp [List.getD, List.getElem?_eq_getElem hlt]
    simp only [idxTriple, hyy, HQ.out]
    simp
   | false =>
    rw [hq] at hcall
    have HQ := Aside0.mk hq
    clear hq
    go_wp2_with (go_at_fn g; refine hcall.mono ?_; rintro e w' ⟨rfl, hb'⟩)
    go_roundg (l.length - (kk + 1))
    case measure => omega
    case rel =>
     refine ⟨kk + 1, by omega, by omega, by go_num, ⟨below_step BW.out hb'⟩, ⟨fun j hj hjl => ?_⟩⟩
     by_cases e : j = kk
     ·subst e
      rw [← HY.out]; exact HQ.out
     ·exact AA.out j (by omega) hjl
  ·have hltz : ¬ (kk : Int) < (l.length : Int) := by omega
   have hkl : kk = l.length := by omega
   subst hkl
   go_wp2_with fail
   go_ret
   refine ⟨?_, BW.out⟩
   rw [idxTriple_skip p l l.length 0 AA.out (Nat.le_refl _), List.drop_length]
   rfl

end Go.Proofs.Ytldcckcljjlglaa.P

namespace Go.Proofs.Ytldcckcljjlglaa.P
open Go.RowKit Go.Proofs.YtldcckcljjlglaaW.PrintWords Go.Proofs.YtldcckcljjlglaaW.PrintLast Go.Proofs.YtldcckcljjlglaaW.PrintMore
attribute [local go_sem] max2_int min2_int max_two min_two max_three min_three max_four min_four   -- for this text's walks alone
set_option linter.unusedVariables false
set_option linter.unusedSimpArgs false

/-! ### impl_Triple_152: function 152 -/
theorem containsTriple_calls (g : Nat) (lb : Array Value) (eg : ∀ args w, (callFunc g args).run Try.prog w = .ok (.enter g args) w) (p : S72 → Bool) (A : Option Addr) (c : Nat) (l : List S72) (w : World) (hr : Kd.C k72 w A l.length l) (hc : l.length ≤ c) (hp : PredTriple g lb p w) :
  Calls Try.prog 152 #[.slice A l.length c, .func (.func g) #[] lb] w fun e w' => e = .returned (.bool (l.any p)) ∧ Below w.heap.size w w' := by
 have HR := Aside0.mk hr
 have HP := Aside0.mk hp
 have HA := Aside0.mk (idxTriple_any p l 0)
 clear hr hp
 go_enter Try.func152, Try.ntmps152
 go_wp2_with fail
 (with_reducible refine (indexTriple_calls g lb eg p A c l _ HR.out hc HP.out).mono ?_); rintro e w1 ⟨rfl, hb⟩
 go_wp2_with fail
 go_ret
 exact ⟨by rw [← HA.out]; rfl, hb⟩

end Go.Proofs.Ytldcckcljjlglaa.P

namespace Go.Proofs.Ytldcckcljjlglaa.P
open Go.RowKit Go.Proofs.YtldcckcljjlglaaW.PrintWords Go.Proofs.YtldcckcljjlglaaW.PrintLast Go.Proofs.YtldcckcljjlglaaW.PrintMore
attribute [local go_sem] max2_int min2_int max_two min_two max_three min_three max_four min_four   -- for this text's walks alone
set_option linter.unusedVariables false
set_option linter.unusedSimpArgs false

/-! ### impl_isLimited_1: function 153 -/
set_option maxHeartbeats 400000 in
theorem isLimited_lit (x y z most : Int) (B : Nat) (w : World) (hB : B < w.heap.size) (hc : w.cell? ⟨B, 0, none⟩ = some (.int .i64 most)) :
  Calls Try.prog 153 #[.agg #[.int .i64 x, .int .i64 y, .int .i64 z], .pointer (some ⟨B, 0, none⟩)] w fun e w' => e = .returned (.bool (farB x most || farB y most || farB z most)) ∧ Below w.heap.size w w' := by
 have hu72 := Try.underlying72
 cases h0 : farB x most with
 | true =>
  have H0 := Aside0.mk h0
  clear h0
  go_enter Try.func153, Try.ntmps153
  go_wp2_with fail
  (with_reducible refine (impl_isFar.calls x most true _ (isFar_is x most H0.out)).mono ?_); rintro e w0 ⟨rfl, ⟨n0, rfl⟩⟩
  go_wp2_with fail
  go_ret
  exact ⟨rfl, by repeat (first | exact Below.refl _ _ | apply below_alloc | apply pw_below_drewN | apply below_drew1)⟩
 | false =>
  have H0 := Aside0.mk h0
  clear h0
  cases h1 : farB y most with
  | true =>
   have H1 := Aside0.mk h1
   clear h1
   go_enter Try.func153, Try.ntmps153
   go_wp2_with fail
   (with_reducible refine (impl_isFar.calls x most false _ (isFar_is x most H0.out)).mono ?_); rintro e w0 ⟨rfl, ⟨n0, rfl⟩⟩
   go_wp2_with fail
   (with_reducible refine (impl_isFar.calls y most true _ (isFar_is y most H1.out)).mono ?_); rintro e w1 ⟨rfl, ⟨n1, rfl⟩⟩
   go_wp2_with fail
   go_ret
   exact ⟨rfl, by repeat (first | exact Below.refl _ _ | apply below_alloc | apply pw_below_drewN | apply below_drew1)⟩
  | false =>
   have H1 := Aside0.mk h1
   clear h1
   cases h2 : farB z most <;> have H2 := Aside0.mk h2 <;> clear h2
   all_goals
    go_enter Try.func153, Try.ntmps153
    go_wp2_with fail
    (with_reducible refine (impl_isFar.calls x most false _ (isFar_is x most H0.out)).mono ?_); rintro e w0 ⟨rfl, ⟨n0, rfl⟩⟩
    go_wp2_with fail
    (with_reducible refine (impl_isFar.calls y most false _ (isFar_is y most H1.out)).mono ?_); rintro e w1 ⟨rfl, ⟨n1, rfl⟩⟩
    go_wp2_with fail
    (with_reducible refine (impl_isFar.calls z most _ _ (isFar_is z most H2.out)).mono ?_); rintro e w2 ⟨rfl, ⟨n2, rfl⟩⟩
    go_wp2_with fail
    go_ret
    exact ⟨rfl, by repeat (first | exact Below.refl _ _ | apply below_alloc | apply pw_below_drewN | apply below_drew1)⟩

end Go.Proofs.Ytldcckcljjlglaa.P

namespace Go.Proofs.Ytldcckcljjlglaa.P
open Go.RowKit Go.Proofs.YtldcckcljjlglaaW.PrintWords Go.Proofs.YtldcckcljjlglaaW.PrintLast Go.Proofs.YtldcckcljjlglaaW.PrintMore
attribute [local go_sem] max2_int min2_int max_two min_two max_three min_three max_four min_four   -- for this text's walks alone
set_option linter.unusedVariables false
set_option linter.unusedSimpArgs false

/-! ### impl_isLimited: function 136 -/
def outTriple (most : Int) (p : S72) : Bool := farB p.f0 most || farB p.f1 most || farB p.f2 most
def impl_isLimited.f (a0 : Int) (l1 : List S72) : Option Bool := some (!l1.any (outTriple a0))
set_option maxHeartbeats 400000 in
theorem impl_isLimited.calls (a0 : Int) (A1 : Option Addr) (c1 : Nat) (l1 : List S72) (r : Bool) (w : World) (hr1 : Kd.C k72 w A1 l1.length l1) (hc1 : l1.length ≤ c1) (h : impl_isLimited.f a0 l1 = some r) :
  Calls Try.prog 136 #[.int .i64 a0, .slice A1 l1.length c1] w fun e w' => e = .returned (.bool r) ∧ Below w.heap.size w w' := by
 have H : (!l1.any (outTriple a0)) = r := Option.some.inj h
 have HH := Aside0.mk H
 clear H h
 have HR := Aside0.mk hr1
 clear hr1
 have eg : ∀ (args : Array Value) (w : World), (callFunc 153 args).run Try.prog w = .ok (.enter 153 args) w := enters_of Try.func153 (by kernel_rfl) rfl
 go_enter Try.func136, Try.ntmps136
 go_wp2_with fail
 (with_reducible refine (containsTriple_calls 153 _ eg (outTriple a0) A1 c1 l1 _ ?side1 hc1 ?side2).mono ?_)
 case side1 => repeat (first | exact HR.out | (with_reducible refine Kd.C_alloc ?_ _) | (with_reducible refine Kd.C_drewN ?_ _) | (with_reducible refine Kd.C_drew ?_))
 case side2 =>
  intro W x hb
  have hlt : w.heap.size < W.heap.size := by have := hb.size; simp at this; omega
  exact isLimited_lit x.f0 x.f1 x.f2 a0 w.heap.size W hlt ((hb.cell (p := ⟨w.heap.size, 0, none⟩) (by simp)).trans (by simp))
 rintro e w1 ⟨rfl, hb⟩
 go_wp2_with fail
 go_ret
 exact ⟨by rw [← HH.out]; rfl, below_step (by repeat (first | exact Below.refl _ _ | apply below_alloc | apply pw_below_drewN | apply below_drew1)) hb⟩

end Go.Proofs.Ytldcckcljjlglaa.P

