/- For every list of points the program's RoundEdges returns what the reference's returns, and leaves the list as it was; no condition. -/
import Derived.Test.YtijgjpfbhbggdaaZFnExactRoundEdges3
import Derived.Test.YtijgjpfbhbggdaaRows
import Derived.Test.YtijgjpfbhbggdaaProg
import Derived.Below
import Derived.Deep.Draws
import Derived.Deep.AppendLies
import Derived.Maps.AppendAt
import Derived.OwnWalk
import Derived.Laws.BytesArg
import Derived.Laws.MakeOwn
import Derived.Laws.OwnMore
import Derived.Deep.OwnRows
import Derived.Tactics
import Derived.Lib.ConvBytes
import Derived.Laws.Slices
import Derived.WalkKit
import Derived.KernelRfl
import Derived.RowKit3
import Derived.Deep.LoopGhost
import Derived.Deep.QuietTactic
import Derived.BigQuiet
import Derived.WideLaws
import Derived.Deep.DeepCutAuto
import Derived.Deep.CutBlock
import Derived.Deep.RegionHeld3
import Derived.Laws.Rows
import Derived.Lib.AppendStr
import Derived.ArgAppend
import Derived.Laws.IdiomCopy
import Derived.OrdersHeld
import Derived.Laws.BitsLemmas
import Derived.RowKit
import Derived.Shelf.Abstract
import Derived.Test.YtijgjpfbhbggdaaWWords
import Derived.Test.YtijgjpfbhbggdaaWLast
import Derived.Test.YtijgjpfbhbggdaaWTab
import Derived.Test.YtijgjpfbhbggdaaWQPut
import Derived.Test.YtijgjpfbhbggdaaWApart
import Derived.Test.YtijgjpfbhbggdaaWArr
import Derived.Test.YtijgjpfbhbggdaaWZeros
import Derived.Test.YtijgjpfbhbggdaaWFoot
import Derived.Test.YtijgjpfbhbggdaaWKept
import Derived.Test.YtijgjpfbhbggdaaWShare
import Derived.Test.YtijgjpfbhbggdaaWN
import Derived.Test.YtijgjpfbhbggdaaWEqStruct
import Derived.Test.YtijgjpfbhbggdaaWRepsOne
import Derived.Test.YtijgjpfbhbggdaaWGuard
import Derived.Test.YtijgjpfbhbggdaaWNEv
import Derived.Test.YtijgjpfbhbggdaaWMore
import Derived.ChangeKeysEq
import Derived.Deep.Slices
import Derived.ChangeOld
import Derived.Carry
import Derived.ProofKit
import Derived.OpenShut
import Derived.ShutString
import Derived.SizedLaws
namespace Go.Proofs.Ytijgjpfbhbggdaa.Com
open Go.RowKit Go.Proofs.YtijgjpfbhbggdaaW.PrintWords
set_option linter.unusedSimpArgs false
set_option linter.unusedVariables false
variable {σ τ ρ υ : Type}
/-- A fold of rounds that hand on to what follows. -/
def foldT (T : σ → τ → (σ → ρ → Prop) → ρ → Prop) (C : σ → ρ → Prop) : List τ → σ → ρ → Prop
  | [], s, r => C s r
  | t :: L, s, r => T s t (foldT T C L) r
def MonoT (T : σ → τ → (σ → ρ → Prop) → ρ → Prop) : Prop := ∀ s t (C D : σ → ρ → Prop) r, (∀ s' r', C s' r' → D s' r') → T s t C r → T s t D r
theorem foldT_mono {T : σ → τ → (σ → ρ → Prop) → ρ → Prop} (hT : MonoT T) {C D : σ → ρ → Prop} (h : ∀ s r, C s r → D s r) (L : List τ) : ∀ s r, foldT T C L s r → foldT T D L s r := by
  induction L with
  | nil => exact h
  | cons t L ih => intro s r; exact hT s t _ _ r ih
/-- A round that goes on with a new state, or ends all with a result. -/
def stepT (step : σ → τ → σ ⊕ ρ) : σ → τ → (σ → ρ → Prop) → ρ → Prop := fun s t C r =>
  match step s t with
  | .inl s' => C s' r
  | .inr r' => r = r'
theorem stepT_mono (step : σ → τ → σ ⊕ ρ) : MonoT (stepT step) := by
  intro s t C D r h hT
  unfold stepT at *
  revert hT
  cases step s t with
  | inl s' => exact fun hT => h _ _ hT
  | inr r' => exact fun hT => hT
/-- A round that is a loop itself. -/
def nestT (T : τ → σ → υ → (σ → ρ → Prop) → ρ → Prop) (L : τ → List υ) : σ → τ → (σ → ρ → Prop) → ρ → Prop := fun s t C r => foldT (T t) C (L t) s r
theorem nestT_mono {T : τ → σ → υ → (σ → ρ → Prop) → ρ → Prop} (hT : ∀ t, MonoT (T t)) (L : τ → List υ) : MonoT (nestT T L) := fun s t C D r h hh => foldT_mono (hT t) h (L t) s r hh
theorem foldT_append (T : σ → τ → (σ → ρ → Prop) → ρ → Prop) (C : σ → ρ → Prop) (A B : List τ) : ∀ s r, foldT T C (A ++ B) s r ↔ foldT T (foldT T C B) A s r := by
  induction A with
  | nil => intro s r; rfl
  | cons t A ih =>
    intro s r
    have e : foldT T C (A ++ B) = foldT T (foldT T C B) A := by funext s r; exact propext (ih s r)
    show T s t (foldT T C (A ++ B)) r ↔ T s t (foldT T (foldT T C B) A) r
    rw [e]
theorem nest_flat (step : σ → υ → σ ⊕ ρ) (L : τ → List υ) (C : σ → ρ → Prop) (J : List τ) : foldT (nestT (fun _ => stepT step) L) C J = foldT (stepT step) C (J.flatMap L) := by
  induction J with
  | nil => rfl
  | cons t J ih =>
    funext s r
    rw [List.flatMap_cons]
    apply propext
    rw [foldT_append]
    show foldT (stepT step) (foldT (nestT (fun _ => stepT step) L) C J) (L t) s r ↔ _
    rw [ih]
def foldX (step : σ → τ → σ ⊕ ρ) (fin : σ → ρ) : List τ → σ → ρ
  | [], s => fin s
  | t :: L, s => match step s t with
    | .inl s' => foldX step fin L s'
    | .inr r => r
theorem foldX_T (step : σ → τ → σ ⊕ ρ) (fin : σ → ρ) {C : σ → ρ → Prop} (hC : ∀ s, C s (fin s)) (L : List τ) : ∀ s, foldT (stepT step) C L s (foldX step fin L s) := by
  induction L with
  | nil => exact hC
  | cons t L ih =>
    intro s
    show stepT step s t _ _
    unfold stepT foldX
    cases h : step s t with
    | inl s' => exact ih s'
    | inr r => rfl
/-- The whole numbers from a on, d of them. -/
def ints (a : Int) : Nat → List Int
  | 0 => []
  | d + 1 => a :: ints (a + 1) d
theorem ints_mem {a x : Int} {d : Nat} (h : x ∈ ints a d) : a ≤ x ∧ x < a + d := by
  induction d generalizing a with
  | zero => simp [ints] at h
  | succ d ih =>
    rcases List.mem_cons.1 h with rfl | h
    · omega
    · have := ih h; omega
/-- A loop that counts from a up to n. -/
theorem rangeLoop {l : Nat → σ → Int → Option ρ} (n : Int) {T : σ → Int → (σ → ρ → Prop) → ρ → Prop} (hT : MonoT T) {C : σ → ρ → Prop} (a0 : Int)
    (hs : ∀ s i, a0 ≤ i → i < n → ∀ r, T s i (fun s' r' => Ev (fun k => l k s' (i + 1)) r') r → Ev (fun k => l k s i) r)
    (he : ∀ s r, C s r → Ev (fun k => l k s n) r) (d : Nat) : ∀ (a : Int), a0 ≤ a → a + d = n → ∀ s r, foldT T C (ints a d) s r → Ev (fun k => l k s a) r := by
  induction d with
  | zero =>
    intro a h0 ha s r h
    obtain rfl : a = n := by omega
    exact he s r h
  | succ d ih =>
    intro a h0 ha s r h
    exact hs s a h0 (by omega) r (hT s a _ _ r (fun s' r' h' => ih (a + 1) (by omega) (by omega) s' r' h') h)
/-- A loop over a list, by its index. -/
theorem listLoop {l : Nat → σ → Int → Option ρ} (L : List τ) (z : τ) {T : σ → τ → (σ → ρ → Prop) → ρ → Prop} (hT : MonoT T) {C : σ → ρ → Prop}
    (hs : ∀ s (i : Int), 0 ≤ i → i < L.length → ∀ r, T s (L.getD i.toNat z) (fun s' r' => Ev (fun k => l k s' (i + 1)) r') r → Ev (fun k => l k s i) r)
    (he : ∀ s r, C s r → Ev (fun k => l k s (L.length : Int)) r) (d : Nat) : ∀ (a : Int), 0 ≤ a → a + d = L.length → ∀ s r, foldT T C (L.drop a.toNat) s r → Ev (fun k => l k s a) r := by
  induction d with
  | zero =>
    intro a h0 ha s r h
    obtain rfl : a = L.length := by omega
    rw [List.drop_of_length_le (by omega)] at h
    exact he s r h
  | succ d ih =>
    intro a h0 ha s r h
    rw [drop_cons L a.toNat z (by omega)] at h
    refine hs s a h0 (by omega) r (hT s _ _ _ r (fun s' r' h' => ih (a + 1) (by omega) (by omega) s' r' ?_) h)
    rw [show (a + 1).toNat = a.toNat + 1 from by omega]
    exact h'
theorem listLoop0 {l : Nat → σ → Int → Option ρ} (L : List τ) (z : τ) {T : σ → τ → (σ → ρ → Prop) → ρ → Prop} (hT : MonoT T) {C : σ → ρ → Prop}
    (hs : ∀ s (i : Int), 0 ≤ i → i < L.length → ∀ r, T s (L.getD i.toNat z) (fun s' r' => Ev (fun k => l k s' (i + 1)) r') r → Ev (fun k => l k s i) r)
    (he : ∀ s r, C s r → Ev (fun k => l k s (L.length : Int)) r) (s : σ) (r : ρ) (h : foldT T C L s r) : Ev (fun k => l k s 0) r :=
  listLoop L z hT hs he L.length 0 (by omega) (by omega) s r (by simpa using h)
/-- Loops that only look: 'all'. -/
theorem foldX_all (p : τ → Bool) (L : List τ) : foldX (σ := Unit) (fun _ t => if p t = true then .inl () else .inr false) (fun _ => true) L () = L.all p := by
  induction L with
  | nil => rfl
  | cons t L ih =>
    simp only [foldX, List.all_cons]
    cases h : p t with
    | true => simp [ih]
    | false => simp
theorem foldT_map (step : σ → τ → σ ⊕ ρ) (f : υ → τ) (C : σ → ρ → Prop) (L : List υ) : foldT (stepT step) C (L.map f) = foldT (stepT fun s u => step s (f u)) C L := by
  induction L with
  | nil => rfl
  | cons t L ih => funext s r; show stepT step s (f t) (foldT (stepT step) C (L.map f)) r = stepT (fun s u => step s (f u)) s t _ r; rw [ih]; rfl
/-- A round that only looks. -/
def allT (p : τ → Bool) : Unit → τ → (Unit → Bool → Prop) → Bool → Prop := fun _ t C r => if p t = true then C () r else r = false
theorem allT_mono (p : τ → Bool) : MonoT (allT p) := by
  intro s t C D r h hT
  unfold allT at *
  cases hp : p t with
  | true => rw [hp] at hT; exact h () r (by simpa using hT)
  | false => rw [hp] at hT; simpa using hT
theorem allT_fold (p : τ → Bool) (C : Unit → Bool → Prop) (L : List τ) : ∀ r, foldT (allT p) C L () r ↔ (if L.all p = true then C () r else r = false) := by
  induction L with
  | nil => intro r; simp [foldT]
  | cons t L ih =>
    intro r
    show (if p t = true then foldT (allT p) C L () r else r = false) ↔ _
    cases hp : p t with
    | true => rw [if_pos rfl, ih]; simp [hp]
    | false => simp [hp]
theorem allT_done (p : τ → Bool) (L : List τ) (C : Unit → Bool → Prop) (hC : C () true) : foldT (allT p) C L () (L.all p) := by
  rw [allT_fold]
  cases h : L.all p <;> simp [hC]
/-- A loop of looks inside a look. -/
theorem allT_nest (p : τ → υ → Bool) (q : τ → Bool) (L : τ → List υ) :
    (fun (s : Unit) (t : τ) (C : Unit → Bool → Prop) (r : Bool) => if q t = true then foldT (allT (p t)) C (L t) s r else r = false) = allT (fun t => q t && (L t).all (p t)) := by
  funext s t C r
  apply propext
  show (if q t = true then foldT (allT (p t)) C (L t) () r else r = false) ↔ (if (q t && (L t).all (p t)) = true then C () r else r = false)
  rw [allT_fold]
  cases q t <;> cases (L t).all (p t) <;> simp
theorem ints_mem_iff {a x : Int} {d : Nat} : x ∈ ints a d ↔ a ≤ x ∧ x < a + d := by
  induction d generalizing a with
  | zero => simp only [ints, List.not_mem_nil, false_iff]; omega
  | succ d ih => simp only [ints, List.mem_cons, ih]; omega
/-- The ascending lists of three of n. -/
def trips (n : Nat) : List (Int × Int × Int) := (ints 0 n).flatMap fun i => (ints (i + 1) ((n : Int) - 1 - i).toNat).flatMap fun j => (ints (j + 1) ((n : Int) - 1 - j).toNat).map fun k => (i, j, k)
theorem trips_mem {n : Nat} {i j k : Int} : (i, j, k) ∈ trips n ↔ 0 ≤ i ∧ i < j ∧ j < k ∧ k < n := by
  simp only [trips, List.mem_flatMap, List.mem_map, ints_mem_iff]
  constructor
  · rintro ⟨i', hi, j', hj, k', hk, he⟩
    simp only [Prod.mk.injEq] at he
    omega
  · rintro ⟨h0, h1, h2, h3⟩
    exact ⟨i, by omega, j, by omega, k, by omega, rfl⟩
def quads (n : Nat) : List (Int × Int × Int × Int) := (trips n).flatMap fun t => (ints (t.2.2 + 1) ((n : Int) - 1 - t.2.2).toNat).map fun l => (t.1, t.2.1, t.2.2, l)
theorem quads_mem {n : Nat} {i j k l : Int} : (i, j, k, l) ∈ quads n ↔ 0 ≤ i ∧ i < j ∧ j < k ∧ k < l ∧ l < n := by
  simp only [quads, List.mem_flatMap, List.mem_map, ints_mem_iff]
  constructor
  · rintro ⟨⟨i', j', k'⟩, ht, l', hl, he⟩
    rw [trips_mem] at ht
    simp only [Prod.mk.injEq] at he hl
    omega
  · rintro ⟨h0, h1, h2, h3, h4⟩
    exact ⟨(i, j, k), by rw [trips_mem]; omega, l, by simp only; omega, rfl⟩
def pairs (n : Nat) : List (Int × Int) := (ints 0 n).flatMap fun i => (ints (i + 1) ((n : Int) - 1 - i).toNat).map fun j => (i, j)
theorem pairs_mem {n : Nat} {i j : Int} : (i, j) ∈ pairs n ↔ 0 ≤ i ∧ i < j ∧ j < n := by
  simp only [pairs, List.mem_flatMap, List.mem_map, ints_mem_iff]
  constructor
  · rintro ⟨i', hi, j', hj, he⟩
    simp only [Prod.mk.injEq] at he
    omega
  · rintro ⟨h0, h1, h2⟩
    exact ⟨i, by omega, j, by omega, rfl⟩
/-- Three loops in each other, over the ascending lists of three of n. -/
theorem tripLoop {l0 : Nat → σ → Int → Option ρ} {l1 : Nat → σ → Int → Int → Option ρ} {l2 : Nat → σ → Int → Int → Int → Option ρ} (n : Nat) (step : σ → (Int × Int × Int) → σ ⊕ ρ) (fin : σ → ρ)
    (h2 : ∀ s i j k, 0 ≤ i → i < j → j < k → k < (n : Int) → ∀ r, stepT step s (i, j, k) (fun s' r' => Ev (fun q => l2 q s' i j (k + 1)) r') r → Ev (fun q => l2 q s i j k) r)
    (h2e : ∀ s i j, 0 ≤ i → i < j → j < (n : Int) → ∀ r, Ev (fun q => l1 q s i (j + 1)) r → Ev (fun q => l2 q s i j n) r)
    (h1 : ∀ s i j, 0 ≤ i → i < j → j < (n : Int) → ∀ r, Ev (fun q => l2 q s i j (j + 1)) r → Ev (fun q => l1 q s i j) r)
    (h1e : ∀ s i, 0 ≤ i → i < (n : Int) → ∀ r, Ev (fun q => l0 q s (i + 1)) r → Ev (fun q => l1 q s i n) r)
    (h0 : ∀ s i, 0 ≤ i → i < (n : Int) → ∀ r, Ev (fun q => l1 q s i (i + 1)) r → Ev (fun q => l0 q s i) r)
    (h0e : ∀ s, Ev (fun q => l0 q s n) (fin s)) (s : σ) : Ev (fun q => l0 q s 0) (foldX step fin (trips n) s) := by
  have hT := foldX_T step fin (C := fun s r => r = fin s) (fun _ => rfl) (trips n) s
  unfold trips at hT
  rw [← nest_flat] at hT
  refine rangeLoop (l := l0) (n : Int) (nestT_mono (fun _ => stepT_mono step) _) (C := fun s r => r = fin s) 0 ?_ (fun s r h => by subst h; exact h0e s) n 0 (by omega) (by omega) s _ hT
  intro s i hi0 hin r hT
  refine h0 s i hi0 hin r ?_
  unfold nestT at hT
  rw [← nest_flat] at hT
  refine rangeLoop (l := fun q s j => l1 q s i j) (n : Int) (nestT_mono (fun _ => stepT_mono step) _) (i + 1) ?_ (fun s r h => h1e s i hi0 hin r h) ((n : Int) - 1 - i).toNat (i + 1) (by omega) (by omega) s r hT
  intro s j hj0 hjn r hT
  refine h1 s i j hi0 (by omega) hjn r ?_
  unfold nestT at hT
  rw [foldT_map] at hT
  refine rangeLoop (l := fun q s k => l2 q s i j k) (n : Int) (stepT_mono _) (j + 1) ?_ (fun s r h => h2e s i j hi0 (by omega) hjn r h) ((n : Int) - 1 - j).toNat (j + 1) (by omega) (by omega) s r hT
  intro s k hk0 hkn r hT
  exact h2 s i j k hi0 (by omega) (by omega) hkn r hT
/-- Two loops in each other, over the ascending lists of two of n. -/
theorem pairLoop {l0 : Nat → σ → Int → Option ρ} {l1 : Nat → σ → Int → Int → Option ρ} (n : Nat) (step : σ → (Int × Int) → σ ⊕ ρ) (fin : σ → ρ)
    (h1 : ∀ s i j, 0 ≤ i → i < j → j < (n : Int) → ∀ r, stepT step s (i, j) (fun s' r' => Ev (fun q => l1 q s' i (j + 1)) r') r → Ev (fun q => l1 q s i j) r)
    (h1e : ∀ s i, 0 ≤ i → i < (n : Int) → ∀ r, Ev (fun q => l0 q s (i + 1)) r → Ev (fun q => l1 q s i n) r)
    (h0 : ∀ s i, 0 ≤ i → i < (n : Int) → ∀ r, Ev (fun q => l1 q s i (i + 1)) r → Ev (fun q => l0 q s i) r)
    (h0e : ∀ s, Ev (fun q => l0 q s n) (fin s)) (s : σ) : Ev (fun q => l0 q s 0) (foldX step fin (pairs n) s) := by
  have hT := foldX_T step fin (C := fun s r => r = fin s) (fun _ => rfl) (pairs n) s
  unfold pairs at hT
  rw [← nest_flat] at hT
  refine rangeLoop (l := l0) (n : Int) (nestT_mono (fun _ => stepT_mono step) _) (C := fun s r => r = fin s) 0 ?_ (fun s r h => by subst h; exact h0e s) n 0 (by omega) (by omega) s _ hT
  intro s i hi0 hin r hT
  refine h0 s i hi0 hin r ?_
  unfold nestT at hT
  rw [foldT_map] at hT
  refine rangeLoop (l := fun q s j => l1 q s i j) (n : Int) (stepT_mono _) (i + 1) ?_ (fun s r h => h1e s i hi0 hin r h) ((n : Int) - 1 - i).toNat (i + 1) (by omega) (by omega) s r hT
  intro s j hj0 hjn r hT
  exact h1 s i j hi0 (by omega) hjn r hT
/-- Two loops in each other, each over all numbers below a bound. -/
theorem gridLoop {l0 : Nat → σ → Int → Option ρ} {l1 : Nat → σ → Int → Int → Option ρ} (n m : Nat) (step : σ → (Int × Int) → σ ⊕ ρ) (fin : σ → ρ)
    (h1 : ∀ s i j, 0 ≤ i → i < (n : Int) → 0 ≤ j → j < (m : Int) → ∀ r, stepT step s (i, j) (fun s' r' => Ev (fun q => l1 q s' i (j + 1)) r') r → Ev (fun q => l1 q s i j) r)
    (h1e : ∀ s i, 0 ≤ i → i < (n : Int) → ∀ r, Ev (fun q => l0 q s (i + 1)) r → Ev (fun q => l1 q s i m) r)
    (h0 : ∀ s i, 0 ≤ i → i < (n : Int) → ∀ r, Ev (fun q => l1 q s i 0) r → Ev (fun q => l0 q s i) r)
    (h0e : ∀ s, Ev (fun q => l0 q s n) (fin s)) (s : σ) : Ev (fun q => l0 q s 0) (foldX step fin ((ints 0 n).flatMap fun i => (ints 0 m).map fun j => (i, j)) s) := by
  have hT := foldX_T step fin (C := fun s r => r = fin s) (fun _ => rfl) ((ints 0 n).flatMap fun i => (ints 0 m).map fun j => (i, j)) s
  rw [← nest_flat] at hT
  refine rangeLoop (l := l0) (n : Int) (nestT_mono (fun _ => stepT_mono step) _) (C := fun s r => r = fin s) 0 ?_ (fun s r h => by subst h; exact h0e s) n 0 (by omega) (by omega) s _ hT
  intro s i hi0 hin r hT
  refine h0 s i hi0 hin r ?_
  unfold nestT at hT
  rw [foldT_map] at hT
  refine rangeLoop (l := fun q s j => l1 q s i j) (m : Int) (stepT_mono _) 0 ?_ (fun s r h => h1e s i hi0 hin r h) m 0 (by omega) (by omega) s r hT
  intro s j hj0 hjn r hT
  exact h1 s i j hi0 hin hj0 hjn r hT
/-- A loop over a list whose rounds hand on a state. -/
theorem foldLoop {l0 : Nat → σ → Int → Option ρ} (L : List τ) (z : τ) (step : σ → τ → σ ⊕ ρ) (fin : σ → ρ)
    (hs : ∀ s (i : Int), 0 ≤ i → i < L.length → L.getD i.toNat z ∈ L → ∀ r, stepT step s (L.getD i.toNat z) (fun s' r' => Ev (fun k => l0 k s' (i + 1)) r') r → Ev (fun k => l0 k s i) r)
    (he : ∀ s, Ev (fun k => l0 k s (L.length : Int)) (fin s)) (s : σ) : Ev (fun k => l0 k s 0) (foldX step fin L s) :=
  listLoop0 L z (stepT_mono step) (C := fun s r => r = fin s) (fun s i h0 h1 r h => hs s i h0 h1 (getD_mem L i.toNat z (by omega)) r h) (fun s r h => by subst h; exact he s) s _ (foldX_T step fin (C := fun s r => r = fin s) (fun _ => rfl) L s)
theorem stepT_inl {step : σ → τ → σ ⊕ ρ} {s : σ} {t : τ} {C : σ → ρ → Prop} {r : ρ} {s' : σ} (h : stepT step s t C r) (e : step s t = .inl s') : C s' r := by unfold stepT at h; rw [e] at h; exact h
theorem stepT_inr {step : σ → τ → σ ⊕ ρ} {s : σ} {t : τ} {C : σ → ρ → Prop} {r : ρ} {r' : ρ} (h : stepT step s t C r) (e : step s t = .inr r') : r = r' := by unfold stepT at h; rw [e] at h; exact h
theorem foldX_map (step : σ → τ → σ ⊕ ρ) (fin : σ → ρ) (f : υ → τ) (L : List υ) : ∀ s, foldX step fin (L.map f) s = foldX (fun s u => step s (f u)) fin L s := by
  induction L with
  | nil => intro s; rfl
  | cons t L ih => intro s; simp only [List.map_cons, foldX]; cases step s (f t) <;> simp [ih]
theorem foldX_congr {step step' : σ → τ → σ ⊕ ρ} (fin : σ → ρ) (L : List τ) (h : ∀ s, ∀ t ∈ L, step s t = step' s t) : ∀ s, foldX step fin L s = foldX step' fin L s := by
  induction L with
  | nil => intro s; rfl
  | cons t L ih =>
    intro s
    have ih' := ih (fun s t ht => h s t (List.mem_cons_of_mem _ ht))
    simp only [foldX, h s t List.mem_cons_self, ih']
theorem foldT_foldl (g : σ → τ → σ) (C : σ → ρ → Prop) (L : List τ) : ∀ s r, foldT (stepT fun s t => .inl (g s t)) C L s r ↔ C (L.foldl g s) r := by
  induction L with
  | nil => intro s r; exact Iff.rfl
  | cons t L ih => intro s r; exact ih (g s t) r
theorem foldX_foldl (g : σ → τ → σ) (fin : σ → ρ) (L : List τ) : ∀ s, foldX (fun s t => .inl (g s t)) fin L s = fin (L.foldl g s) := by
  induction L with
  | nil => intro s; rfl
  | cons t L ih => intro s; exact ih (g s t)
theorem ints_len (a : Int) (d : Nat) : (ints a d).length = d := by
  induction d generalizing a with
  | zero => rfl
  | succ d ih => simp [ints, ih]
end Go.Proofs.Ytijgjpfbhbggdaa.Com

namespace Go.Proofs.Ytijgjpfbhbggdaa.Com
open Go.RowKit Go.Proofs.YtijgjpfbhbggdaaW.PrintWords
set_option linter.unusedSimpArgs false
set_option linter.unusedVariables false
variable {σ τ ρ υ : Type}
theorem nest_flatT {T : σ → υ → (σ → ρ → Prop) → ρ → Prop} (hT : MonoT T) (L : τ → List υ) (C : σ → ρ → Prop) (J : List τ) : ∀ s r, foldT (nestT (fun _ => T) L) C J s r ↔ foldT T C (J.flatMap L) s r := by
  induction J with
  | nil => intro s r; exact Iff.rfl
  | cons t J ih =>
    intro s r
    rw [List.flatMap_cons, foldT_append]
    exact ⟨fun h => foldT_mono hT (fun s r => (ih s r).1) (L t) s r h, fun h => foldT_mono hT (fun s r => (ih s r).2) (L t) s r h⟩
theorem foldT_mapT (T : σ → τ → (σ → ρ → Prop) → ρ → Prop) (f : υ → τ) (C : σ → ρ → Prop) (L : List υ) : ∀ s r, foldT T C (L.map f) s r ↔ foldT (fun s u => T s (f u)) C L s r := by
  induction L with
  | nil => intro s r; exact Iff.rfl
  | cons u L ih =>
    have e : foldT T C (L.map f) = foldT (fun s u => T s (f u)) C L := by funext s r; exact propext (ih s r)
    intro s r
    show T s (f u) (foldT T C (L.map f)) r ↔ T s (f u) (foldT (fun s u => T s (f u)) C L) r
    rw [e]
/-- Three loops in each other, over the ascending lists of three of n. -/
theorem tripLoopT {l0 : Nat → σ → Int → Option ρ} {l1 : Nat → σ → Int → Int → Option ρ} {l2 : Nat → σ → Int → Int → Int → Option ρ} (n : Nat) {T : σ → (Int × Int × Int) → (σ → ρ → Prop) → ρ → Prop} (hM : MonoT T) {C : σ → ρ → Prop}
    (h2 : ∀ s i j k, 0 ≤ i → i < j → j < k → k < (n : Int) → ∀ r, T s (i, j, k) (fun s' r' => Ev (fun q => l2 q s' i j (k + 1)) r') r → Ev (fun q => l2 q s i j k) r)
    (h2e : ∀ s i j, 0 ≤ i → i < j → j < (n : Int) → ∀ r, Ev (fun q => l1 q s i (j + 1)) r → Ev (fun q => l2 q s i j n) r)
    (h1 : ∀ s i j, 0 ≤ i → i < j → j < (n : Int) → ∀ r, Ev (fun q => l2 q s i j (j + 1)) r → Ev (fun q => l1 q s i j) r)
    (h1e : ∀ s i, 0 ≤ i → i < (n : Int) → ∀ r, Ev (fun q => l0 q s (i + 1)) r → Ev (fun q => l1 q s i n) r)
    (h0 : ∀ s i, 0 ≤ i → i < (n : Int) → ∀ r, Ev (fun q => l1 q s i (i + 1)) r → Ev (fun q => l0 q s i) r)
    (h0e : ∀ s r, C s r → Ev (fun q => l0 q s n) r) (s : σ) (r : ρ) (hT : foldT T C (trips n) s r) : Ev (fun q => l0 q s 0) r := by
  unfold trips at hT
  rw [← nest_flatT hM] at hT
  refine rangeLoop (l := l0) (n : Int) (nestT_mono (fun _ => hM) _) (C := C) 0 ?_ h0e n 0 (by omega) (by omega) s _ hT
  intro s i hi0 hin r hT
  refine h0 s i hi0 hin r ?_
  unfold nestT at hT
  rw [← nest_flatT hM] at hT
  refine rangeLoop (l := fun q s j => l1 q s i j) (n : Int) (nestT_mono (fun _ => hM) _) (i + 1) ?_ (fun s r h => h1e s i hi0 hin r h) ((n : Int) - 1 - i).toNat (i + 1) (by omega) (by omega) s r hT
  intro s j hj0 hjn r hT
  refine h1 s i j hi0 (by omega) hjn r ?_
  unfold nestT at hT
  rw [foldT_mapT] at hT
  refine rangeLoop (l := fun q s k => l2 q s i j k) (n : Int) (T := fun s k => T s (i, j, k)) (fun s t C D r h hh => hM s _ C D r h hh) (j + 1) ?_ (fun s r h => h2e s i j hi0 (by omega) hjn r h) ((n : Int) - 1 - j).toNat (j + 1) (by omega) (by omega) s r hT
  intro s k hk0 hkn r hT
  exact h2 s i j k hi0 (by omega) (by omega) hkn r hT
/-- A round that may put a value behind the row. -/
def pushT (g : τ → Option υ) : List υ → τ → (List υ → ρ → Prop) → ρ → Prop := fun s t C r =>
  match g t with
  | some v => s.length < 1000000 ∧ C (s ++ [v]) r
  | none => C s r
theorem pushT_mono (g : τ → Option υ) : MonoT (pushT (ρ := ρ) g) := by
  intro s t C D r h hT
  unfold pushT at *
  revert hT
  cases g t with
  | some v => exact fun hT => ⟨hT.1, h _ _ hT.2⟩
  | none => exact fun hT => h _ _ hT
theorem pushT_fold (g : τ → Option υ) (C : List υ → ρ → Prop) (L : List τ) : ∀ s r, s.length + L.length ≤ 1000000 → C (s ++ L.filterMap g) r → foldT (pushT g) C L s r := by
  induction L with
  | nil => intro s r _ h; show C s r; simpa using h
  | cons t L ih =>
    intro s r hb h
    simp only [List.length_cons] at hb
    show pushT g s t _ r
    unfold pushT
    cases hg : g t with
    | some v =>
      refine ⟨by omega, ih _ _ (by simp; omega) ?_⟩
      rw [List.filterMap_cons, hg] at h
      simpa using h
    | none =>
      refine ih _ _ (by omega) ?_
      rw [List.filterMap_cons, hg] at h
      exact h
theorem pushT_some {g : τ → Option υ} {s : List υ} {t : τ} {C : List υ → ρ → Prop} {r : ρ} {v : υ} (h : pushT g s t C r) (e : g t = some v) : s.length < 1000000 ∧ C (s ++ [v]) r := by unfold pushT at h; rw [e] at h; exact h
theorem pushT_none {g : τ → Option υ} {s : List υ} {t : τ} {C : List υ → ρ → Prop} {r : ρ} (h : pushT g s t C r) (e : g t = none) : C s r := by unfold pushT at h; rw [e] at h; exact h
end Go.Proofs.Ytijgjpfbhbggdaa.Com

namespace Go.Proofs.Ytijgjpfbhbggdaa.Pure
open Go.RowKit Go.Proofs.Ytijgjpfbhbggdaa.P Go.Proofs.YtijgjpfbhbggdaaW.PrintWords Go.Proofs.YtijgjpfbhbggdaaW.PrintLast Go.Proofs.Ytijgjpfbhbggdaa.Com
set_option linter.unusedSimpArgs false
set_option linter.unusedVariables false

def inB (n m : Int) : Bool := decide (-m ≤ n ∧ n ≤ m)
theorem inB_iff {n m : Int} : inB n m = true ↔ -m ≤ n ∧ n ≤ m := by simp [inB]
theorem l1In_eq (a lo hi : Int) : spec_l1In.f a lo hi = some (decide (lo ≤ a ∧ a ≤ hi)) := by
  unfold spec_l1In.f
  by_cases h : a ≥ lo
  · rw [if_pos h]; congr 1; simp only [decide_eq_decide]; omega
  · rw [if_neg h]; congr 1; symm; simp only [decide_eq_false_iff_not]; omega
theorem l1In_inB (a m : Int) (h0 : 0 ≤ m) (h1 : m ≤ 4611686018427387904) : spec_l1In.f a (wrap64 (-m)) m = some (inB a m) := by
  rw [w64 (by omega) (by omega), l1In_eq]; rfl
end Go.Proofs.Ytijgjpfbhbggdaa.Pure

namespace Go.Proofs.Ytijgjpfbhbggdaa.Pure
open Go.RowKit Go.Proofs.Ytijgjpfbhbggdaa.P Go.Proofs.YtijgjpfbhbggdaaW.PrintWords Go.Proofs.YtijgjpfbhbggdaaW.PrintLast Go.Proofs.Ytijgjpfbhbggdaa.Com
set_option linter.unusedSimpArgs false
set_option linter.unusedVariables false

theorem farB_eq (n m : Int) (h0 : 0 ≤ m) (h1 : m ≤ 4611686018427387904) : farB n m = !inB n m := by
  unfold farB impl_isFar.f inB
  rw [w64 (by omega) (by omega)]
  by_cases h : n < -m
  · rw [if_pos h, Option.getD_some, Bool.eq_iff_iff]; simp; omega
  · rw [if_neg h, Option.getD_some, Bool.eq_iff_iff]; simp; omega
theorem l2Fits_eq (x y m : Int) (h0 : 0 ≤ m) (h1 : m ≤ 4611686018427387904) : spec_l2Fits.f x y m = some (inB x m && inB y m) := by
  unfold spec_l2Fits.f
  rw [l1In_inB x m h0 h1, l1In_inB y m h0 h1]
  simp only [Option.bind_some]
  cases inB x m <;> simp
theorem areNear_eq (m : Int) (l : List S25) (h0 : 0 ≤ m) (h1 : m ≤ 4611686018427387904) : impl_areNear.f m l = some (l.all fun p => inB p.f0 m && inB p.f1 m) := by
  unfold impl_areNear.f outPoint
  congr 1
  rw [List.not_any_eq_all_not]
  congr 1
  funext p
  rw [farB_eq _ _ h0 h1, farB_eq _ _ h0 h1]
  simp
end Go.Proofs.Ytijgjpfbhbggdaa.Pure

namespace Go.Proofs.Ytijgjpfbhbggdaa.Pure
open Go.RowKit Go.Proofs.YtijgjpfbhbggdaaW.PrintWords Go.Proofs.YtijgjpfbhbggdaaW.PrintLast Go.Proofs.Ytijgjpfbhbggdaa.Com
set_option linter.unusedSimpArgs false
set_option linter.unusedVariables false

theorem ww_add_l (x y : Int) : wrap64 (wrap64 x + y) = wrap64 (x + y) := by unfold wrap64; omega
theorem ww_add_r (x y : Int) : wrap64 (x + wrap64 y) = wrap64 (x + y) := by unfold wrap64; omega
theorem ww_sub_l (x y : Int) : wrap64 (wrap64 x - y) = wrap64 (x - y) := by unfold wrap64; omega
theorem ww_sub_r (x y : Int) : wrap64 (x - wrap64 y) = wrap64 (x - y) := by unfold wrap64; omega
theorem ww_neg (x : Int) : wrap64 (-wrap64 x) = wrap64 (-x) := by unfold wrap64; omega
theorem ww (x : Int) : wrap64 (wrap64 x) = wrap64 x := by unfold wrap64; omega
theorem wrap_is (x : Int) : ∃ q : Int, wrap64 x = x + q * 18446744073709551616 := ⟨-((x + 9223372036854775808) / 18446744073709551616), by unfold wrap64; omega⟩
theorem wrap_shift (x q : Int) : wrap64 (x + q * 18446744073709551616) = wrap64 x := by unfold wrap64; omega
theorem ww_mul_l (x y : Int) : wrap64 (wrap64 x * y) = wrap64 (x * y) := by
  obtain ⟨q, h⟩ := wrap_is x
  rw [h, Int.add_mul, Int.mul_assoc q, Int.mul_comm 18446744073709551616 y, ← Int.mul_assoc q, wrap_shift]
theorem ww_mul_r (x y : Int) : wrap64 (x * wrap64 y) = wrap64 (x * y) := by rw [Int.mul_comm, ww_mul_l, Int.mul_comm]
theorem abs_mul_le {a b : Int} {A B : Nat} (ha : a.natAbs ≤ A) (hb : b.natAbs ≤ B) : (a * b).natAbs ≤ A * B := by
  rw [Int.natAbs_mul]; exact Nat.mul_le_mul ha hb
theorem wrap_abs (x : Int) (h : x.natAbs ≤ 4611686018427387904) : wrap64 x = x := by unfold wrap64; omega
end Go.Proofs.Ytijgjpfbhbggdaa.Pure

namespace Go.Proofs.Ytijgjpfbhbggdaa.Pure
open Go.RowKit Go.Proofs.Ytijgjpfbhbggdaa.P Go.Proofs.YtijgjpfbhbggdaaW.PrintWords Go.Proofs.YtijgjpfbhbggdaaW.PrintLast Go.Proofs.Ytijgjpfbhbggdaa.Com
set_option linter.unusedSimpArgs false
set_option linter.unusedVariables false

def sgn (x : Int) : Int := if 0 < x then 1 else if x < 0 then -1 else 0
theorem l2Sign_eq (x : Int) : spec_l2Sign.f x = some (sgn x) := by
  unfold spec_l2Sign.f spec_l1Bit.f sgn
  by_cases h1 : 0 < x
  · have h2 : ¬ x < 0 := by omega
    simp [h1, h2, wrap64]
  · by_cases h2 : x < 0
    · simp [h1, h2, wrap64]
    · simp [h1, h2, wrap64]
theorem signOf_eq (x : Int) : impl_signOf.f x = some (sgn x) := by
  unfold impl_signOf.f cmp_Compare_int.f cmp_isNaN_int.f sgn
  by_cases h1 : 0 < x
  · have h2 : ¬ x < 0 := by omega
    simp [h1, h2]
  · by_cases h2 : x < 0
    · simp [h1, h2]
    · simp [h1, h2]
/-- Twice a triangle's area, as Go reckons it. -/
def areaW (a b c d e f : Int) : Int := wrap64 ((c - a) * (f - b) - (d - b) * (e - a))
theorem l2Area_eq (a b c d e f : Int) : spec_l2Area.f a b c d e f = some (areaW a b c d e f) := by
  simp only [spec_l2Area.f, areaW, ww_sub_l, ww_sub_r, ww_mul_l, ww_mul_r]
theorem area_eq (a b c d e f : Int) : impl_area.f a b c d e f = some (areaW a b c d e f) := by
  simp only [impl_area.f, areaW, ww_sub_l, ww_sub_r, ww_mul_l, ww_mul_r]
theorem TurnOf_eq (a b c d e f : Int) : impl_TurnOf.f a b c d e f = some (if ((inB a 1000 && inB b 1000) && ((inB c 1000 && inB d 1000) && (inB e 1000 && inB f 1000))) = true then sgn (areaW a b c d e f) else 0) := by
  unfold impl_TurnOf.f
  rw [areNear_eq 1000 _ (by omega) (by omega), area_eq]
  simp only [Option.bind_some, signOf_eq, List.all_cons, List.all_nil, Bool.and_true]
  split <;> rfl
end Go.Proofs.Ytijgjpfbhbggdaa.Pure

namespace Go.Proofs.Ytijgjpfbhbggdaa.Pure
open Go.RowKit Go.Proofs.Ytijgjpfbhbggdaa.P Go.Proofs.YtijgjpfbhbggdaaW.PrintWords Go.Proofs.YtijgjpfbhbggdaaW.PrintLast Go.Proofs.Ytijgjpfbhbggdaa.Com
set_option linter.unusedSimpArgs false
set_option linter.unusedVariables false

def mk3 (t : Int × Int × Int) : S65 := ⟨t.1, t.2.1, t.2.2⟩
theorem trips_0 : impl_triplesOf.f 200 (0 : Nat) = some ((trips 0).map mk3) := by kernel_rfl
theorem trips_1 : impl_triplesOf.f 200 (1 : Nat) = some ((trips 1).map mk3) := by kernel_rfl
theorem trips_2 : impl_triplesOf.f 200 (2 : Nat) = some ((trips 2).map mk3) := by kernel_rfl
theorem trips_3 : impl_triplesOf.f 200 (3 : Nat) = some ((trips 3).map mk3) := by kernel_rfl
theorem trips_4 : impl_triplesOf.f 200 (4 : Nat) = some ((trips 4).map mk3) := by kernel_rfl
theorem trips_5 : impl_triplesOf.f 200 (5 : Nat) = some ((trips 5).map mk3) := by kernel_rfl
theorem trips_6 : impl_triplesOf.f 200 (6 : Nat) = some ((trips 6).map mk3) := by kernel_rfl
theorem trips_7 : impl_triplesOf.f 200 (7 : Nat) = some ((trips 7).map mk3) := by kernel_rfl
theorem triples_eq (n : Nat) (hn : n ≤ 7) : Ev (fun k => impl_triplesOf.f k (n : Int)) ((trips n).map mk3) := by
  have h : impl_triplesOf.f 200 (n : Int) = some ((trips n).map mk3) := by
    have z : n = 0 ∨ n = 1 ∨ n = 2 ∨ n = 3 ∨ n = 4 ∨ n = 5 ∨ n = 6 ∨ n = 7 := by omega
    rcases z with rfl | rfl | rfl | rfl | rfl | rfl | rfl | rfl
    · exact trips_0
    · exact trips_1
    · exact trips_2
    · exact trips_3
    · exact trips_4
    · exact trips_5
    · exact trips_6
    · exact trips_7
  exact Ev.of (fun k => impl_triplesOf.mono _ k) h
end Go.Proofs.Ytijgjpfbhbggdaa.Pure

namespace Go.Proofs.Ytijgjpfbhbggdaa.Pure
open Go.RowKit Go.Proofs.Ytijgjpfbhbggdaa.P Go.Proofs.YtijgjpfbhbggdaaW.PrintWords Go.Proofs.YtijgjpfbhbggdaaW.PrintLast Go.Proofs.Ytijgjpfbhbggdaa.Com
set_option linter.unusedSimpArgs false
set_option linter.unusedVariables false

/-- Twice the area of three points of a list, with its sign. -/
def areaL (l : List S25) (i j k : Int) : Int := areaW (rd_T25 l i).f0 (rd_T25 l i).f1 (rd_T25 l j).f0 (rd_T25 l j).f1 (rd_T25 l k).f0 (rd_T25 l k).f1
def fits50 (l : List S25) (i : Int) : Bool := inB (rd_T25 l i).f0 50 && inB (rd_T25 l i).f1 50
def nz (l : List S25) (i j k : Int) : Bool := !(areaL l i j k == 0)
/-- Three to seven points with coordinates between -50 and 50, no three of them on a line. -/
def pointsB (l : List S25) : Bool := decide (3 ≤ l.length ∧ l.length ≤ 7) && (ints 0 l.length).all fun k => fits50 l k && (ints 0 k.toNat).all fun j => (ints 0 j.toNat).all fun i => nz l i j k
theorem pointsB_iff (l : List S25) : pointsB l = true ↔ (3 ≤ l.length ∧ l.length ≤ 7) ∧ (∀ i : Int, 0 ≤ i → i < l.length → fits50 l i = true) ∧ (∀ i j k : Int, 0 ≤ i → i < j → j < k → k < l.length → areaL l i j k ≠ 0) := by
  unfold pointsB
  simp only [Bool.and_eq_true, decide_eq_true_eq, List.all_eq_true, ints_mem_iff, nz, Bool.not_eq_true', beq_eq_false_iff_ne]
  constructor
  · rintro ⟨hl, h⟩
    refine ⟨hl, fun i h0 h1 => (h i ⟨h0, by omega⟩).1, fun i j k h0 h1 h2 h3 => ?_⟩
    exact (h k ⟨by omega, by omega⟩).2 j ⟨by omega, by omega⟩ i ⟨by omega, by omega⟩
  · rintro ⟨hl, hf, ha⟩
    refine ⟨hl, fun k hk => ⟨hf k hk.1 (by omega), fun j hj i hi => ha i j k (by omega) (by omega) (by omega) (by omega)⟩⟩
theorem l2Area_L (l : List S25) (i j k : Int) : spec_l2Area.f (rd_T25 l i).f0 (rd_T25 l i).f1 (rd_T25 l j).f0 (rd_T25 l j).f1 (rd_T25 l k).f0 (rd_T25 l k).f1 = some (areaL l i j k) := l2Area_eq _ _ _ _ _ _
theorem spec_ArePoints_ev (l : List S25) (hl : l.length ≤ 1099511627776) : Ev (fun k => spec_ArePoints.f k l) (pointsB l) := by
  simp only [spec_ArePoints.f, l1In_eq, Option.bind_some]
  by_cases h : 3 ≤ l.length ∧ l.length ≤ 7
  · refine Ev.iteT (by simp; omega) ?_
    have e : pointsB l = (ints 0 l.length).all fun k => fits50 l k && (ints 0 k.toNat).all fun j => (ints 0 j.toNat).all fun i => nz l i j k := by unfold pointsB; rw [decide_eq_true h]; simp
    rw [e]
    refine rangeLoop (σ := Unit) (l := fun k _ i => spec_ArePoints.l0 k l i) (l.length : Int) (T := allT _) (allT_mono _) (C := fun _ r => r = true) 0 ?_ ?_ l.length 0 (by omega) (by omega) () _ (allT_done _ _ _ rfl)
    · intro _ k hk0 hkn r hT
      rw [← allT_nest (fun k j => (ints 0 j.toNat).all fun i => nz l i j k) (fits50 l) (fun k => ints 0 k.toNat)] at hT
      refine Ev.step (f := fun q => if fits50 l k = true then spec_ArePoints.l1 q l k 0 else some false) (fun q => ?_) ?_
      · simp only [spec_ArePoints.l0]
        rw [if_pos hkn, if_pos hk0, l2Fits_eq _ _ 50 (by omega) (by omega)]; rfl
      cases hf : fits50 l k with
      | false => rw [hf] at hT; simp only [Bool.false_eq_true, if_false] at hT ⊢; subst hT; exact Ev.now _
      | true =>
        rw [hf] at hT; simp only [if_true] at hT ⊢
        refine rangeLoop (σ := Unit) (l := fun q _ j => spec_ArePoints.l1 q l k j) k (T := allT fun j => (ints 0 j.toNat).all fun i => nz l i j k) (allT_mono _) (C := fun s r => Ev (fun q => spec_ArePoints.l0 q l (k + 1)) r) 0 ?_ ?_ k.toNat 0 (by omega) (by omega) () r hT
        · intro _ j hj0 hjk r hT
          refine Ev.step (f := fun q => spec_ArePoints.l2 q l k j 0) (fun q => by simp only [spec_ArePoints.l1]; rw [if_pos hjk]) ?_
          have hT2 : foldT (allT fun i => nz l i j k) (fun _ r => Ev (fun q => spec_ArePoints.l1 q l k (j + 1)) r) (ints 0 j.toNat) () r := by rw [allT_fold]; exact hT
          refine rangeLoop (σ := Unit) (l := fun q _ i => spec_ArePoints.l2 q l k j i) j (T := allT fun i => nz l i j k) (allT_mono _) 0 ?_ ?_ j.toNat 0 (by omega) (by omega) () r hT2
          · intro _ i hi0 hij r hT
            refine Ev.step (f := fun q => if areaL l i j k = 0 then some false else spec_ArePoints.l2 q l k j (i + 1)) (fun q => ?_) ?_
            · simp only [spec_ArePoints.l2]
              rw [if_pos hij, if_pos hi0, if_pos (by omega), if_pos hj0, if_pos (by omega), if_pos hk0, if_pos hkn, l2Area_L, w64 (by omega) (by omega)]; rfl
            by_cases hz : areaL l i j k = 0
            · have : r = false := by simpa [allT, nz, hz] using hT
              subst this; exact Ev.iteT hz (Ev.now _)
            · refine Ev.iteF hz ?_; simpa [allT, nz, hz] using hT
          · intro _ r hC
            refine Ev.step (f := fun q => spec_ArePoints.l1 q l k (j + 1)) (fun q => ?_) hC
            simp only [spec_ArePoints.l2]
            rw [if_neg (by omega), w64 (by omega) (by omega)]
        · intro _ r hC
          refine Ev.step (f := fun q => spec_ArePoints.l0 q l (k + 1)) (fun q => ?_) hC
          simp only [spec_ArePoints.l1]
          rw [if_neg (by omega), w64 (by omega) (by omega)]
    · intro _ r hC
      subst hC
      refine Ev.step (f := fun _ => some true) (fun q => ?_) (Ev.now true)
      simp only [spec_ArePoints.l0]
      rw [if_neg (by omega)]
  · have e : pointsB l = false := by unfold pointsB; rw [decide_eq_false h]; rfl
    rw [e]
    exact Ev.iteF (by simp; omega) (Ev.now _)
theorem sgn_zero (x : Int) : sgn x = 0 ↔ x = 0 := by unfold sgn; split <;> (try split) <;> omega
theorem fits50_all (l : List S25) : (l.all fun p => inB p.f0 50 && inB p.f1 50) = (ints 0 l.length).all (fits50 l) := by
  rw [Bool.eq_iff_iff]
  simp only [List.all_eq_true, ints_mem_iff]
  constructor
  · intro h i hi
    exact h (rd_T25 l i) (getD_mem l i.toNat z25 (by omega))
  · intro h p hp
    obtain ⟨n, hn, rfl⟩ := List.mem_iff_getElem.1 hp
    have := h (n : Int) (by omega)
    simpa [fits50, rd_T25, List.getD, List.getElem?_eq_getElem hn] using this
theorem TurnOf_in (l : List S25) (i j k : Int) (hi : fits50 l i = true) (hj : fits50 l j = true) (hk : fits50 l k = true) :
    impl_TurnOf.f (rd_T25 l i).f0 (rd_T25 l i).f1 (rd_T25 l j).f0 (rd_T25 l j).f1 (rd_T25 l k).f0 (rd_T25 l k).f1 = some (sgn (areaL l i j k)) := by
  rw [TurnOf_eq, if_pos]; · rfl
  simp only [fits50, Bool.and_eq_true, inB_iff] at *
  omega
theorem impl_ArePoints_ev (l : List S25) (hl : l.length ≤ 1099511627776) : Ev (fun k => impl_ArePoints.f k l) (pointsB l) := by
  have stop : Ev (fun k => impl_ArePoints.j0 k l true) false := Ev.step (f := fun _ => some false) (fun k => by simp only [impl_ArePoints.j0, if_true]) (Ev.now _)
  simp only [impl_ArePoints.f, areNear_eq 50 _ (show (0 : Int) ≤ 50 by omega) (by omega), Option.bind_some]
  by_cases h3 : (l.length : Int) < 3
  · have e : pointsB l = false := by unfold pointsB; rw [decide_eq_false (by omega)]; rfl
    rw [e]; exact Ev.iteT h3 stop
  refine Ev.iteF h3 ?_
  by_cases h7 : (l.length : Int) > 7
  · have e : pointsB l = false := by unfold pointsB; rw [decide_eq_false (by omega)]; rfl
    rw [e]; exact Ev.iteT h7 stop
  refine Ev.iteF h7 ?_
  rw [fits50_all]
  cases hf : (ints 0 l.length).all (fits50 l) with
  | false =>
    have e : pointsB l = false := by
      rw [Bool.eq_false_iff]; intro hp
      rw [pointsB_iff] at hp
      rw [List.all_eq_false] at hf
      obtain ⟨x, hx, hx'⟩ := hf
      rw [ints_mem_iff] at hx
      exact hx' (hp.2.1 x hx.1 (by omega))
    rw [e]; exact stop
  | true =>
    have hF : ∀ i, 0 ≤ i → i < (l.length : Int) → fits50 l i = true := fun i h0 h1 => by
      rw [List.all_eq_true] at hf; exact hf i (by rw [ints_mem_iff]; omega)
    refine Ev.step (f := fun k => (impl_triplesOf.f k (l.length : Int)).bind fun t => impl_ArePoints.l0 k l t (t.length : Int) 0) (fun k => by simp only [impl_ArePoints.j0, Bool.not_true, Bool.false_eq_true, if_false]) ?_
    refine Ev.bind (triples_eq l.length (by omega)) ?_
    have e : pointsB l = ((trips l.length).map mk3).all fun t => nz l t.f0 t.f1 t.f2 := by
      rw [Bool.eq_iff_iff, pointsB_iff]
      simp only [List.all_eq_true, List.mem_map]
      constructor
      · rintro ⟨_, _, ha⟩ t ⟨⟨i, j, k⟩, hm, rfl⟩
        rw [trips_mem] at hm
        simp only [mk3, nz, Bool.not_eq_true', beq_eq_false_iff_ne]
        exact ha i j k hm.1 hm.2.1 hm.2.2.1 hm.2.2.2
      · intro h
        refine ⟨by omega, hF, fun i j k h0 h1 h2 h3 => ?_⟩
        have := h _ ⟨(i, j, k), by rw [trips_mem]; omega, rfl⟩
        simpa [mk3, nz] using this
    rw [e]
    refine listLoop0 (σ := Unit) (l := fun q _ i => impl_ArePoints.l0 q l _ _ i) ((trips l.length).map mk3) z65 (T := allT _) (allT_mono _) (C := fun _ r => r = true) ?_ ?_ () _ (allT_done _ _ _ rfl)
    · intro _ i hi0 hin r hT
      have hm : ((trips l.length).map mk3).getD i.toNat z65 ∈ (trips l.length).map mk3 := getD_mem _ _ _ (by omega)
      generalize hg : ((trips l.length).map mk3).getD i.toNat z65 = t at hm hT
      have hr : rd_T65 ((trips l.length).map mk3) i = t := hg
      obtain ⟨⟨a, b, c⟩, hm3, rfl⟩ := List.mem_map.1 hm
      clear hm
      have hm := trips_mem.1 hm3
      refine Ev.step (f := fun q => if sgn (areaL l a b c) = 0 then some false else impl_ArePoints.l0 q l ((trips l.length).map mk3) (((trips l.length).map mk3).length : Int) (i + 1)) (fun q => ?_) ?_
      · simp only [impl_ArePoints.l0, hr, mk3]
        have hlen : i < (((trips l.length).map mk3).length : Int) := hin
        have hb : (((trips l.length).map mk3).length : Int) ≤ 35 := by
          have : l.length = 3 ∨ l.length = 4 ∨ l.length = 5 ∨ l.length = 6 ∨ l.length = 7 := by omega
          rcases this with h | h | h | h | h <;> rw [h] <;> decide +kernel
        rw [if_pos hlen, if_pos hi0, if_pos (by omega), if_pos (by omega), if_pos (by omega), if_pos (by omega), if_pos (by omega), if_pos (by omega), if_pos (by omega), TurnOf_in l a b c (hF a (by omega) (by omega)) (hF b (by omega) (by omega)) (hF c (by omega) (by omega)), w64 (by omega) (by omega)]; rfl
      by_cases hz : areaL l a b c = 0
      · have : r = false := by simpa [allT, nz, mk3, hz] using hT
        subst this; exact Ev.iteT ((sgn_zero _).2 hz) (Ev.now _)
      · refine Ev.iteF (fun h => hz ((sgn_zero _).1 h)) ?_; simpa [allT, nz, mk3, hz] using hT
    · intro _ r hC
      subst hC
      refine Ev.step (f := fun _ => some true) (fun q => ?_) (Ev.now true)
      simp only [impl_ArePoints.l0]
      rw [if_neg (by omega)]
end Go.Proofs.Ytijgjpfbhbggdaa.Pure

namespace Go.Proofs.Ytijgjpfbhbggdaa.Pure
open Go.RowKit Go.Proofs.Ytijgjpfbhbggdaa.P Go.Proofs.YtijgjpfbhbggdaaW.PrintWords Go.Proofs.YtijgjpfbhbggdaaW.PrintLast Go.Proofs.Ytijgjpfbhbggdaa.Com
set_option linter.unusedSimpArgs false
set_option linter.unusedVariables false

theorem inB_wider {x m n : Int} (h : inB x m = true) (hm : m ≤ n) : inB x n = true := by rw [inB_iff] at *; omega
theorem LengthOf_in (a b c d : Int) (ha : inB a 1000 = true) (hb : inB b 1000 = true) (hc : inB c 1000 = true) (hd : inB d 1000 = true) :
    spec_LengthOf.f a b c d = some (wrap64 ((a - c) * (a - c) + (b - d) * (b - d))) := by
  unfold spec_LengthOf.f
  rw [l2Fits_eq a b 1000 (by omega) (by omega), l2Fits_eq c d 1000 (by omega) (by omega)]
  simp [ha, hb, hc, hd, ww_add_l, ww_add_r, ww_mul_l, ww_mul_r]
/-- Points within 50: the reference's side of a circle is the program's determinant's. -/
def sideW (a b c d e f g h : Int) : Int :=
  wrap64 (sgn (wrap64 ((a - g) * ((d - h) * ((e - g) * (e - g) + (f - h) * (f - h)) - ((c - g) * (c - g) + (d - h) * (d - h)) * (f - h)) - (b - h) * ((c - g) * ((e - g) * (e - g) + (f - h) * (f - h)) - ((c - g) * (c - g) + (d - h) * (d - h)) * (e - g)) + ((a - g) * (a - g) + (b - h) * (b - h)) * ((c - g) * (f - h) - (d - h) * (e - g)))) * sgn (areaW a b c d e f))
theorem side_spec (a b c d e f g h : Int) (ha : inB a 50 = true) (hb : inB b 50 = true) (hc : inB c 50 = true) (hd : inB d 50 = true) (he : inB e 50 = true) (hf : inB f 50 = true) (hg : inB g 50 = true) (hh : inB h 50 = true) :
    spec_l29Side.f a b c d e f g h = some (sideW a b c d e f g h) := by
  have w : ∀ {x : Int}, inB x 50 = true → inB x 1000 = true := fun h => inB_wider h (by omega)
  unfold spec_l29Side.f
  rw [LengthOf_in a b g h (w ha) (w hb) (w hg) (w hh), LengthOf_in c d g h (w hc) (w hd) (w hg) (w hh), LengthOf_in e f g h (w he) (w hf) (w hg) (w hh)]
  simp only [Option.bind_some, l2Area_eq, l2Sign_eq, sideW]
  congr 4
  simp only [areaW, ww_add_l, ww_add_r, ww_mul_l, ww_mul_r]
  congr 1
  grind
theorem side_impl (a b c d e f g h : Int) (ha : inB a 50 = true) (hb : inB b 50 = true) (hc : inB c 50 = true) (hd : inB d 50 = true) (he : inB e 50 = true) (hf : inB f 50 = true) (hg : inB g 50 = true) (hh : inB h 50 = true) :
    impl_SideOfCircle.f a b c d e f g h = some (sideW a b c d e f g h) := by
  have w : ∀ {x : Int}, inB x 50 = true → inB x 1000 = true := fun h => inB_wider h (by omega)
  unfold impl_SideOfCircle.f
  rw [areNear_eq 50 _ (by omega) (by omega), TurnOf_eq]
  simp only [List.all_cons, List.all_nil, Bool.and_true, ha, hb, hc, hd, he, hf, hg, hh, w ha, w hb, w hc, w hd, w he, w hf, Bool.and_self, if_true, Option.bind_some, impl_lift.f, signOf_eq, sideW]
  congr 4
  simp only [ww_add_l, ww_add_r, ww_sub_l, ww_sub_r, ww_mul_l, ww_mul_r]
end Go.Proofs.Ytijgjpfbhbggdaa.Pure

namespace Go.Proofs.Ytijgjpfbhbggdaa.Pure
open Go.RowKit Go.Proofs.Ytijgjpfbhbggdaa.P Go.Proofs.YtijgjpfbhbggdaaW.PrintWords Go.Proofs.YtijgjpfbhbggdaaW.PrintLast Go.Proofs.Ytijgjpfbhbggdaa.Com
set_option linter.unusedSimpArgs false
set_option linter.unusedVariables false

def mk4 (t : Int × Int × Int × Int) : S63 := ⟨t.1, t.2.1, t.2.2.1, t.2.2.2⟩
theorem quads_0 : impl_quadsOf.f 300 (0 : Nat) = some ((quads 0).map mk4) := by kernel_rfl
theorem quads_1 : impl_quadsOf.f 300 (1 : Nat) = some ((quads 1).map mk4) := by kernel_rfl
theorem quads_2 : impl_quadsOf.f 300 (2 : Nat) = some ((quads 2).map mk4) := by kernel_rfl
theorem quads_3 : impl_quadsOf.f 300 (3 : Nat) = some ((quads 3).map mk4) := by kernel_rfl
theorem quads_4 : impl_quadsOf.f 300 (4 : Nat) = some ((quads 4).map mk4) := by kernel_rfl
theorem quads_5 : impl_quadsOf.f 300 (5 : Nat) = some ((quads 5).map mk4) := by kernel_rfl
theorem quads_6 : impl_quadsOf.f 300 (6 : Nat) = some ((quads 6).map mk4) := by kernel_rfl
theorem quads_7 : impl_quadsOf.f 300 (7 : Nat) = some ((quads 7).map mk4) := by kernel_rfl
theorem quads_eq (n : Nat) (hn : n ≤ 7) : Ev (fun k => impl_quadsOf.f k (n : Int)) ((quads n).map mk4) := by
  have h : impl_quadsOf.f 300 (n : Int) = some ((quads n).map mk4) := by
    have z : n = 0 ∨ n = 1 ∨ n = 2 ∨ n = 3 ∨ n = 4 ∨ n = 5 ∨ n = 6 ∨ n = 7 := by omega
    rcases z with rfl | rfl | rfl | rfl | rfl | rfl | rfl | rfl
    · exact quads_0
    · exact quads_1
    · exact quads_2
    · exact quads_3
    · exact quads_4
    · exact quads_5
    · exact quads_6
    · exact quads_7
  exact Ev.of (fun k => impl_quadsOf.mono _ k) h
end Go.Proofs.Ytijgjpfbhbggdaa.Pure

namespace Go.Proofs.Ytijgjpfbhbggdaa.Pure
open Go.RowKit Go.Proofs.Ytijgjpfbhbggdaa.P Go.Proofs.YtijgjpfbhbggdaaW.PrintWords Go.Proofs.YtijgjpfbhbggdaaW.PrintLast Go.Proofs.Ytijgjpfbhbggdaa.Com
set_option linter.unusedSimpArgs false
set_option linter.unusedVariables false

/-- Three points' circle and a fourth point, out of a list. -/
def sideL (l : List S25) (i j k p : Int) : Int := sideW (rd_T25 l i).f0 (rd_T25 l i).f1 (rd_T25 l j).f0 (rd_T25 l j).f1 (rd_T25 l k).f0 (rd_T25 l k).f1 (rd_T25 l p).f0 (rd_T25 l p).f1
theorem fits50_two {l : List S25} {i : Int} (h : fits50 l i = true) : inB (rd_T25 l i).f0 50 = true ∧ inB (rd_T25 l i).f1 50 = true := by simpa [fits50] using h
theorem side_specL (l : List S25) (i j k p : Int) (hi : fits50 l i = true) (hj : fits50 l j = true) (hk : fits50 l k = true) (hp : fits50 l p = true) :
    spec_l29Side.f (rd_T25 l i).f0 (rd_T25 l i).f1 (rd_T25 l j).f0 (rd_T25 l j).f1 (rd_T25 l k).f0 (rd_T25 l k).f1 (rd_T25 l p).f0 (rd_T25 l p).f1 = some (sideL l i j k p) :=
  side_spec _ _ _ _ _ _ _ _ (fits50_two hi).1 (fits50_two hi).2 (fits50_two hj).1 (fits50_two hj).2 (fits50_two hk).1 (fits50_two hk).2 (fits50_two hp).1 (fits50_two hp).2
theorem side_implL (l : List S25) (i j k p : Int) (hi : fits50 l i = true) (hj : fits50 l j = true) (hk : fits50 l k = true) (hp : fits50 l p = true) :
    impl_SideOfCircle.f (rd_T25 l i).f0 (rd_T25 l i).f1 (rd_T25 l j).f0 (rd_T25 l j).f1 (rd_T25 l k).f0 (rd_T25 l k).f1 (rd_T25 l p).f0 (rd_T25 l p).f1 = some (sideL l i j k p) :=
  side_impl _ _ _ _ _ _ _ _ (fits50_two hi).1 (fits50_two hi).2 (fits50_two hj).1 (fits50_two hj).2 (fits50_two hk).1 (fits50_two hk).2 (fits50_two hp).1 (fits50_two hp).2
def nc (l : List S25) (i j k p : Int) : Bool := !(sideL l i j k p == 0)
/-- Three to six points, no three on a line, no four on a circle. -/
def freeB (l : List S25) : Bool := pointsB l && decide (l.length ≤ 6) && (ints 0 l.length).all fun d => (ints 0 d.toNat).all fun c => (ints 0 c.toNat).all fun b => (ints 0 b.toNat).all fun a => nc l a b c d
theorem freeB_iff (l : List S25) (h : pointsB l = true) (h6 : l.length ≤ 6) : freeB l = true ↔ ∀ a b c d : Int, 0 ≤ a → a < b → b < c → c < d → d < l.length → sideL l a b c d ≠ 0 := by
  unfold freeB
  simp only [h, Bool.true_and, Bool.and_eq_true, decide_eq_true_eq, h6, true_and, List.all_eq_true, ints_mem_iff, nc, Bool.not_eq_true', beq_eq_false_iff_ne]
  constructor
  · intro hh a b c d h0 h1 h2 h3 h4
    exact hh d ⟨by omega, by omega⟩ c ⟨by omega, by omega⟩ b ⟨by omega, by omega⟩ a ⟨by omega, by omega⟩
  · intro hh d hd c hc b hb a ha
    exact hh a b c d (by omega) (by omega) (by omega) (by omega) (by omega)
theorem points_len {l : List S25} (h : pointsB l = true) : 3 ≤ l.length ∧ l.length ≤ 7 := ((pointsB_iff l).1 h).1
theorem points_fit {l : List S25} (h : pointsB l = true) {i : Int} (h0 : 0 ≤ i) (h1 : i < l.length) : fits50 l i = true := ((pointsB_iff l).1 h).2.1 i h0 h1
theorem spec_AreFree_ev (l : List S25) (hl : l.length ≤ 1099511627776) : Ev (fun k => spec_AreFree.f k l) (freeB l) := by
  have stop : Ev (fun k => spec_AreFree.j0 k l true) false := Ev.step (f := fun _ => some false) (fun k => by simp only [spec_AreFree.j0, if_true]) (Ev.now _)
  simp only [spec_AreFree.f]
  refine Ev.bind (spec_ArePoints_ev l hl) ?_
  cases hp : pointsB l with
  | false => rw [show freeB l = false by simp [freeB, hp]]; exact stop
  | true =>
    simp only [if_true]
    by_cases h6 : l.length ≤ 6
    · rw [decide_eq_false (show ¬ (l.length : Int) > 6 by omega)]
      have hF : ∀ i : Int, 0 ≤ i → i < (l.length : Int) → fits50 l i = true := fun i h0 h1 => points_fit hp h0 h1
      have e : freeB l = (ints 0 l.length).all fun d => (ints 0 d.toNat).all fun c => (ints 0 c.toNat).all fun b => (ints 0 b.toNat).all fun a => nc l a b c d := by unfold freeB; simp [hp, h6]
      rw [e]
      refine Ev.step (f := fun k => spec_AreFree.l0 k l 0) (fun k => by simp only [spec_AreFree.j0, Bool.false_eq_true, if_false]) ?_
      refine rangeLoop (σ := Unit) (l := fun k _ i => spec_AreFree.l0 k l i) (l.length : Int) (T := allT _) (allT_mono _) (C := fun _ r => r = true) 0 ?_ ?_ l.length 0 (by omega) (by omega) () _ (allT_done _ _ _ rfl)
      · intro _ d hd0 hdn r hT
        refine Ev.step (f := fun q => spec_AreFree.l1 q l d 0) (fun q => by simp only [spec_AreFree.l0]; rw [if_pos hdn]) ?_
        have hT1 : foldT (allT fun c => (ints 0 c.toNat).all fun b => (ints 0 b.toNat).all fun a => nc l a b c d) (fun _ r => Ev (fun q => spec_AreFree.l0 q l (d + 1)) r) (ints 0 d.toNat) () r := by rw [allT_fold]; exact hT
        refine rangeLoop (σ := Unit) (l := fun q _ j => spec_AreFree.l1 q l d j) d (T := allT _) (allT_mono _) 0 ?_ ?_ d.toNat 0 (by omega) (by omega) () r hT1
        · intro _ c hc0 hcd r hT
          refine Ev.step (f := fun q => spec_AreFree.l2 q l d c 0) (fun q => by simp only [spec_AreFree.l1]; rw [if_pos hcd]) ?_
          have hT2 : foldT (allT fun b => (ints 0 b.toNat).all fun a => nc l a b c d) (fun _ r => Ev (fun q => spec_AreFree.l1 q l d (c + 1)) r) (ints 0 c.toNat) () r := by rw [allT_fold]; exact hT
          refine rangeLoop (σ := Unit) (l := fun q _ j => spec_AreFree.l2 q l d c j) c (T := allT _) (allT_mono _) 0 ?_ ?_ c.toNat 0 (by omega) (by omega) () r hT2
          · intro _ b hb0 hbc r hT
            refine Ev.step (f := fun q => spec_AreFree.l3 q l d c b 0) (fun q => by simp only [spec_AreFree.l2]; rw [if_pos hbc]) ?_
            have hT3 : foldT (allT fun a => nc l a b c d) (fun _ r => Ev (fun q => spec_AreFree.l2 q l d c (b + 1)) r) (ints 0 b.toNat) () r := by rw [allT_fold]; exact hT
            refine rangeLoop (σ := Unit) (l := fun q _ j => spec_AreFree.l3 q l d c b j) b (T := allT _) (allT_mono _) 0 ?_ ?_ b.toNat 0 (by omega) (by omega) () r hT3
            · intro _ a ha0 hab r hT
              refine Ev.step (f := fun q => if sideL l a b c d = 0 then some false else spec_AreFree.l3 q l d c b (a + 1)) (fun q => ?_) ?_
              · simp only [spec_AreFree.l3]
                rw [if_pos hab, if_pos ha0, if_pos (by omega), if_pos hb0, if_pos (by omega), if_pos hc0, if_pos (by omega), if_pos hd0, if_pos hdn, side_specL l a b c d (hF a ha0 (by omega)) (hF b hb0 (by omega)) (hF c hc0 (by omega)) (hF d hd0 hdn), w64 (by omega) (by omega)]; rfl
              by_cases hz : sideL l a b c d = 0
              · have : r = false := by simpa [allT, nc, hz] using hT
                subst this; exact Ev.iteT hz (Ev.now _)
              · refine Ev.iteF hz ?_; simpa [allT, nc, hz] using hT
            · intro _ r hC
              refine Ev.step (f := fun q => spec_AreFree.l2 q l d c (b + 1)) (fun q => ?_) hC
              simp only [spec_AreFree.l3]
              rw [if_neg (by omega), w64 (by omega) (by omega)]
          · intro _ r hC
            refine Ev.step (f := fun q => spec_AreFree.l1 q l d (c + 1)) (fun q => ?_) hC
            simp only [spec_AreFree.l2]
            rw [if_neg (by omega), w64 (by omega) (by omega)]
        · intro _ r hC
          refine Ev.step (f := fun q => spec_AreFree.l0 q l (d + 1)) (fun q => ?_) hC
          simp only [spec_AreFree.l1]
          rw [if_neg (by omega), w64 (by omega) (by omega)]
      · intro _ r hC
        subst hC
        refine Ev.step (f := fun _ => some true) (fun q => ?_) (Ev.now true)
        simp only [spec_AreFree.l0]
        rw [if_neg (by omega)]
    · rw [decide_eq_true (show (l.length : Int) > 6 by omega), show freeB l = false by simp [freeB, h6]]
      exact stop
theorem quads_small (n : Nat) (h : n ≤ 6) : (quads n).length ≤ 35 := by
  have z : n = 0 ∨ n = 1 ∨ n = 2 ∨ n = 3 ∨ n = 4 ∨ n = 5 ∨ n = 6 := by omega
  rcases z with h | h | h | h | h | h | h <;> rw [h] <;> decide +kernel
theorem impl_AreFree_ev (l : List S25) (hl : l.length ≤ 1099511627776) : Ev (fun k => impl_AreFree.f k l) (freeB l) := by
  have stop : Ev (fun k => impl_AreFree.j0 k l true) false := Ev.step (f := fun _ => some false) (fun k => by simp only [impl_AreFree.j0, if_true]) (Ev.now _)
  simp only [impl_AreFree.f]
  refine Ev.bind (impl_ArePoints_ev l hl) ?_
  cases hp : pointsB l with
  | false => rw [show freeB l = false by simp [freeB, hp]]; exact stop
  | true =>
    simp only [if_true]
    by_cases h6 : l.length ≤ 6
    · rw [decide_eq_false (show ¬ (l.length : Int) > 6 by omega)]
      have hF : ∀ i : Int, 0 ≤ i → i < (l.length : Int) → fits50 l i = true := fun i h0 h1 => points_fit hp h0 h1
      refine Ev.step (f := fun k => (impl_quadsOf.f k (l.length : Int)).bind fun t => impl_AreFree.l0 k l t (t.length : Int) 0) (fun k => by simp only [impl_AreFree.j0, Bool.false_eq_true, if_false]) ?_
      refine Ev.bind (quads_eq l.length (by omega)) ?_
      have e : freeB l = ((quads l.length).map mk4).all fun t => nc l t.f0 t.f1 t.f2 t.f3 := by
        rw [Bool.eq_iff_iff, freeB_iff l hp h6]
        simp only [List.all_eq_true, List.mem_map]
        constructor
        · rintro ha t ⟨⟨i, j, k, p⟩, hm, rfl⟩
          rw [quads_mem] at hm
          simp only [mk4, nc, Bool.not_eq_true', beq_eq_false_iff_ne]
          exact ha i j k p hm.1 hm.2.1 hm.2.2.1 hm.2.2.2.1 hm.2.2.2.2
        · intro h i j k p h0 h1 h2 h3 h4
          have := h _ ⟨(i, j, k, p), by rw [quads_mem]; omega, rfl⟩
          simpa [mk4, nc] using this
      rw [e]
      have hb : (((quads l.length).map mk4).length : Int) ≤ 35 := by
        have := quads_small l.length h6
        rw [List.length_map]; omega
      refine listLoop0 (σ := Unit) (l := fun q _ i => impl_AreFree.l0 q l _ _ i) ((quads l.length).map mk4) z63 (T := allT _) (allT_mono _) (C := fun _ r => r = true) ?_ ?_ () _ (allT_done _ _ _ rfl)
      · intro _ i hi0 hin r hT
        have hm : ((quads l.length).map mk4).getD i.toNat z63 ∈ (quads l.length).map mk4 := getD_mem _ _ _ (by omega)
        generalize hg : ((quads l.length).map mk4).getD i.toNat z63 = t at hm hT
        have hr : rd_T63 ((quads l.length).map mk4) i = t := hg
        obtain ⟨⟨a, b, c, d⟩, hm3, rfl⟩ := List.mem_map.1 hm
        clear hm
        have hm := quads_mem.1 hm3
        refine Ev.step (f := fun q => if sideL l a b c d = 0 then some false else impl_AreFree.l0 q l ((quads l.length).map mk4) (((quads l.length).map mk4).length : Int) (i + 1)) (fun q => ?_) ?_
        · simp only [impl_AreFree.l0, hr, mk4]
          have hlen : i < (((quads l.length).map mk4).length : Int) := hin
          rw [if_pos hlen, if_pos hi0, if_pos (by omega), if_pos (by omega), if_pos (by omega), if_pos (by omega), if_pos (by omega), if_pos (by omega), if_pos (by omega), if_pos (by omega), if_pos (by omega), side_implL l a b c d (hF a (by omega) (by omega)) (hF b (by omega) (by omega)) (hF c (by omega) (by omega)) (hF d (by omega) (by omega)), w64 (by omega) (by omega)]; rfl
        by_cases hz : sideL l a b c d = 0
        · have : r = false := by simpa [allT, nc, mk4, hz] using hT
          subst this; exact Ev.iteT hz (Ev.now _)
        · refine Ev.iteF hz ?_; simpa [allT, nc, mk4, hz] using hT
      · intro _ r hC
        subst hC
        refine Ev.step (f := fun _ => some true) (fun q => ?_) (Ev.now true)
        simp only [impl_AreFree.l0]
        rw [if_neg (by omega)]
    · rw [decide_eq_true (show (l.length : Int) > 6 by omega), show freeB l = false by simp [freeB, h6]]
      exact stop
end Go.Proofs.Ytijgjpfbhbggdaa.Pure

namespace Go.Proofs.Ytijgjpfbhbggdaa.Pure
open Go.RowKit Go.Proofs.Ytijgjpfbhbggdaa.P Go.Proofs.YtijgjpfbhbggdaaW.PrintWords Go.Proofs.YtijgjpfbhbggdaaW.PrintLast Go.Proofs.Ytijgjpfbhbggdaa.Com
set_option linter.unusedSimpArgs false
set_option linter.unusedVariables false

theorem sgn_range (x : Int) : sgn x = 1 ∨ sgn x = 0 ∨ sgn x = -1 := by unfold sgn; split <;> (try split) <;> simp
theorem sideL_range (l : List S25) (i j k p : Int) : sideL l i j k p = 1 ∨ sideL l i j k p = 0 ∨ sideL l i j k p = -1 := by
  unfold sideL sideW
  rcases sgn_range (wrap64 _) with h | h | h <;> rcases sgn_range (areaW _ _ _ _ _ _) with h' | h' | h' <;> rw [h, h'] <;> simp [wrap64]
/-- Does p lie inside the circle of i, j and k? -/
def isIn (l : List S25) (i j k p : Int) : Bool := !(p == i) && (!(p == j) && (!(p == k) && sideL l i j k p == 1))
def stepS (l : List S25) (i j k : Int) (s p : Int) : Int ⊕ Int := .inl (wrap64 (s + if isIn l i j k p = true then 1 else 0))
def stepI (l : List S25) (i j k : Int) (s p : Int) : Int ⊕ Int := .inl (if isIn l i j k p = true then wrap64 (s + 1) else s)
theorem steps_same (l : List S25) (i j k : Int) (L : List Int) : ∀ s : Int, 0 ≤ s → s + L.length ≤ 1000 → foldX (stepS l i j k) id L s = foldX (stepI l i j k) id L s := by
  induction L with
  | nil => intro s _ _; rfl
  | cons p L ih =>
    intro s h0 h1
    simp only [List.length_cons] at h1
    simp only [foldX, stepS, stepI]
    cases isIn l i j k p with
    | true => simp only [if_true]; rw [w64 (by omega) (by omega)]; exact ih _ (by omega) (by omega)
    | false => simp only [Bool.false_eq_true, if_false]; rw [w64 (by omega) (by omega), Int.add_zero]; exact ih _ (by omega) (by omega)
def countIn (l : List S25) (i j k : Int) : Int := foldX (stepI l i j k) id (ints 0 l.length) 0
theorem ints_length (a : Int) (d : Nat) : (ints a d).length = d := by
  induction d generalizing a with
  | zero => rfl
  | succ d ih => simp [ints, ih]
theorem l1Bit_eq (b : Bool) : spec_l1Bit.f b = some (if b = true then 1 else 0) := by unfold spec_l1Bit.f; cases b <;> rfl
theorem l29In_ev (l : List S25) (hn : l.length ≤ 7) (hF : ∀ i : Int, 0 ≤ i → i < (l.length : Int) → fits50 l i = true) (i j k : Int) (hi : 0 ≤ i ∧ i < l.length) (hj : 0 ≤ j ∧ j < l.length) (hk : 0 ≤ k ∧ k < l.length) :
    Ev (fun q => spec_l29In.f q l i j k) (countIn l i j k) := by
  unfold countIn
  rw [← steps_same l i j k _ 0 (by omega) (by rw [ints_length]; omega)]
  simp only [spec_l29In.f]
  refine rangeLoop (σ := Int) (l := fun q s p => spec_l29In.l0 q l i j k s p) (l.length : Int) (stepT_mono (stepS l i j k)) (C := fun s r => r = s) 0 ?_ ?_ l.length 0 (by omega) (by omega) 0 _ (foldX_T _ id (C := fun s r => r = s) (fun _ => rfl) _ 0)
  · intro s p hp0 hpn r hT
    have hT := stepT_inl hT rfl
    refine Ev.step (f := fun q => spec_l29In.l0 q l i j k (wrap64 (s + if isIn l i j k p = true then 1 else 0)) (p + 1)) (fun q => ?_) hT
    simp only [spec_l29In.l0]
    rw [if_pos hpn, w64 (x := p + 1) (by omega) (by omega)]
    by_cases h1 : p = i
    · rw [if_pos h1, l1Bit_eq, show isIn l i j k p = false by simp [isIn, h1]]; rfl
    rw [if_neg h1]
    by_cases h2 : p = j
    · rw [if_pos h2, l1Bit_eq, show isIn l i j k p = false by simp [isIn, h2]]; rfl
    rw [if_neg h2]
    by_cases h3 : p = k
    · rw [if_pos h3, l1Bit_eq, show isIn l i j k p = false by simp [isIn, h3]]; rfl
    rw [if_neg h3, if_pos hi.1, if_pos hi.2, if_pos hj.1, if_pos hj.2, if_pos hk.1, if_pos hk.2, if_pos hp0, side_specL l i j k p (hF i hi.1 hi.2) (hF j hj.1 hj.2) (hF k hk.1 hk.2) (hF p hp0 hpn)]
    simp only [Option.bind_some, l1Bit_eq]
    have e : isIn l i j k p = decide (sideL l i j k p > 0) := by
      simp only [isIn, beq_eq_false_iff_ne.mpr h1, beq_eq_false_iff_ne.mpr h2, beq_eq_false_iff_ne.mpr h3, Bool.not_false, Bool.true_and]
      rcases sideL_range l i j k p with h | h | h <;> rw [h] <;> rfl
    rw [e]
  · intro s r hC
    rw [hC]
    refine Ev.step (f := fun _ => some s) (fun q => ?_) (Ev.now s)
    simp only [spec_l29In.l0]
    rw [if_neg (by omega)]
theorem inCircle_ev (l : List S25) (hn : l.length ≤ 7) (hF : ∀ i : Int, 0 ≤ i → i < (l.length : Int) → fits50 l i = true) (i j k : Int) (hi : 0 ≤ i ∧ i < l.length) (hj : 0 ≤ j ∧ j < l.length) (hk : 0 ≤ k ∧ k < l.length) :
    Ev (fun q => impl_inCircle.f q l i j k) (countIn l i j k) := by
  unfold countIn
  simp only [impl_inCircle.f]
  refine rangeLoop (σ := Int) (l := fun q s p => impl_inCircle.l0 q l s l l.length p i j k) (l.length : Int) (stepT_mono (stepI l i j k)) (C := fun s r => r = s) 0 ?_ ?_ l.length 0 (by omega) (by omega) 0 _ (foldX_T _ id (C := fun s r => r = s) (fun _ => rfl) _ 0)
  · intro s p hp0 hpn r hT
    have hT := stepT_inl hT rfl
    refine Ev.step (f := fun q => impl_inCircle.l0 q l (if isIn l i j k p = true then wrap64 (s + 1) else s) l l.length (p + 1) i j k) (fun q => ?_) hT
    simp only [impl_inCircle.l0]
    rw [if_pos hpn, if_pos hp0, if_pos hpn, w64 (x := p + 1) (by omega) (by omega)]
    by_cases h1 : p = i
    · rw [if_pos h1, show isIn l i j k p = false by simp [isIn, h1]]; rfl
    rw [if_neg h1]
    by_cases h2 : p = j
    · rw [if_pos h2, show isIn l i j k p = false by simp [isIn, h2]]; rfl
    rw [if_neg h2]
    by_cases h3 : p = k
    · rw [if_pos h3, show isIn l i j k p = false by simp [isIn, h3]]; rfl
    rw [if_neg h3, if_pos hi.1, if_pos hi.2, if_pos hj.1, if_pos hj.2, if_pos hk.1, if_pos hk.2, side_implL l i j k p (hF i hi.1 hi.2) (hF j hj.1 hj.2) (hF k hk.1 hk.2) (hF p hp0 hpn)]
    simp only [Option.bind_some]
    have e : isIn l i j k p = (sideL l i j k p == 1) := by
      simp only [isIn, beq_eq_false_iff_ne.mpr h1, beq_eq_false_iff_ne.mpr h2, beq_eq_false_iff_ne.mpr h3, Bool.not_false, Bool.true_and]
    rw [e]
    by_cases hz : sideL l i j k p = 1
    · rw [if_pos hz, if_pos (by simp [hz])]
    · rw [if_neg hz, if_neg (by simp [hz])]
  · intro s r hC
    rw [hC]
    refine Ev.step (f := fun _ => some s) (fun q => ?_) (Ev.now s)
    simp only [impl_inCircle.l0]
    rw [if_neg (by omega)]
end Go.Proofs.Ytijgjpfbhbggdaa.Pure

namespace Go.Proofs.Ytijgjpfbhbggdaa.P
open Go.RowKit Go.Proofs.YtijgjpfbhbggdaaW.PrintWords Go.Proofs.YtijgjpfbhbggdaaW.PrintLast Go.Proofs.YtijgjpfbhbggdaaW.PrintMore
attribute [local go_sem] max2_int min2_int max_two min_two max_three min_three max_four min_four   -- for this text's walks alone
set_option linter.unusedVariables false
set_option linter.unusedSimpArgs false

/-! ### spec_CountInCircles: function 31 -/
mutual
def spec_CountInCircles.l0 : Nat → List (S25) → Int → Int → Option (Int)
 | 0, _, _, _ => none
 | k + 1, x0, x3, x4 => if x4 < (x0.length : Int) then (spec_CountInCircles.l1 k x0 x3 x4 (wrap64 (x4 + 1))) else (some x3)
def spec_CountInCircles.l1 : Nat → List (S25) → Int → Int → Int → Option (Int)
 | 0, _, _, _, _ => none
 | k + 1, x0, x3, x4, x5 => if x5 < (x0.length : Int) then (spec_CountInCircles.l2 k x0 x3 x4 x5 (wrap64 (x5 + 1))) else (spec_CountInCircles.l0 k x0 x3 (wrap64 (x4 + 1)))
def spec_CountInCircles.l2 : Nat → List (S25) → Int → Int → Int → Int → Option (Int)
 | 0, _, _, _, _, _ => none
 | k + 1, x0, x3, x4, x5, x6 => if x6 < (x0.length : Int) then ((spec_l29In.f k x0 x4 x5 x6).bind fun t102 => (spec_CountInCircles.l2 k x0 (wrap64 (x3 + t102)) x4 x5 (wrap64 (x6 + 1)))) else (spec_CountInCircles.l1 k x0 x3 x4 (wrap64 (x5 + 1)))
end
def spec_CountInCircles.f (k : Nat) (l0 : List (S25)) : Option (Int) := (spec_AreFree.f k l0).bind fun t101 => (if t101 = true then (spec_CountInCircles.l0 k l0 0 0) else (some (-1)))
theorem spec_CountInCircles.mono_l : ∀ k, (∀ y0 y1 y2, LeO (spec_CountInCircles.l0 k y0 y1 y2) (spec_CountInCircles.l0 (k + 1) y0 y1 y2)) ∧ (∀ y0 y1 y2 y3, LeO (spec_CountInCircles.l1 k y0 y1 y2 y3) (spec_CountInCircles.l1 (k + 1) y0 y1 y2 y3)) ∧ (∀ y0 y1 y2 y3 y4, LeO (spec_CountInCircles.l2 k y0 y1 y2 y3 y4) (spec_CountInCircles.l2 (k + 1) y0 y1 y2 y3 y4))
 | 0 => ⟨fun _ _ _ r h => by simp [spec_CountInCircles.l0] at h, fun _ _ _ _ r h => by simp [spec_CountInCircles.l1] at h, fun _ _ _ _ _ r h => by simp [spec_CountInCircles.l2] at h⟩
 | k + 1 => by
  obtain ⟨ih0, ih1, ih2⟩ := spec_CountInCircles.mono_l k
  refine ⟨?_, ?_, ?_⟩
  ·intro y0 y1 y2
   unfold spec_CountInCircles.l0
   repeat' first
   | (with_reducible exact ih0 _ _ _)
   | (with_reducible exact ih1 _ _ _ _)
   | (with_reducible exact ih2 _ _ _ _ _)
   | (with_reducible exact spec_AreFree.mono _ _)
   | (with_reducible exact spec_l29In.mono _ _ _ _ _)
   | (with_reducible exact LeO.refl _)
   | (with_reducible exact LeO.none _)
   | (with_reducible refine LeO.ite ?_ ?_)
   | (with_reducible refine LeO.bind ?_ (fun _ => ?_))
   | exact ih0 _ _ _
   | exact ih1 _ _ _ _
   | exact ih2 _ _ _ _ _
   | exact spec_AreFree.mono _ _
   | exact spec_l29In.mono _ _ _ _ _
   | exact LeO.none _
   | refine LeO.ite ?_ ?_
   | refine LeO.bind ?_ (fun _ => ?_)
  ·intro y0 y1 y2 y3
   unfold spec_CountInCircles.l1
   repeat' first
   | (with_reducible exact ih0 _ _ _)
   | (with_reducible exact ih1 _ _ _ _)
   | (with_reducible exact ih2 _ _ _ _ _)
   | (with_reducible exact spec_AreFree.mono _ _)
   | (with_reducible exact spec_l29In.mono _ _ _ _ _)
   | (with_reducible exact LeO.refl _)
   | (with_reducible exact LeO.none _)
   | (with_reducible refine LeO.ite ?_ ?_)
   | (with_reducible refine LeO.bind ?_ (fun _ => ?_))
   | exact ih0 _ _ _
   | exact ih1 _ _ _ _
   | exact ih2 _ _ _ _ _
   | exact spec_AreFree.mono _ _
   | exact spec_l29In.mono _ _ _ _ _
   | exact LeO.none _
   | refine LeO.ite ?_ ?_
   | refine LeO.bind ?_ (fun _ => ?_)
  ·intro y0 y1 y2 y3 y4
   unfold spec_CountInCircles.l2
   repeat' first
   | (with_reducible exact ih0 _ _ _)
   | (with_reducible exact ih1 _ _ _ _)
   | (with_reducible exact ih2 _ _ _ _ _)
   | (with_reducible exact spec_AreFree.mono _ _)
   | (with_reducible exact spec_l29In.mono _ _ _ _ _)
   | (with_reducible exact LeO.refl _)
   | (with_reducible exact LeO.none _)
   | (with_reducible refine LeO.ite ?_ ?_)
   | (with_reducible refine LeO.bind ?_ (fun _ => ?_))
   | exact ih0 _ _ _
   | exact ih1 _ _ _ _
   | exact ih2 _ _ _ _ _
   | exact spec_AreFree.mono _ _
   | exact spec_l29In.mono _ _ _ _ _
   | exact LeO.none _
   | refine LeO.ite ?_ ?_
   | refine LeO.bind ?_ (fun _ => ?_)
theorem spec_CountInCircles.mono : ∀ a0 k, LeO (spec_CountInCircles.f k a0) (spec_CountInCircles.f (k + 1) a0) := by
 intro a0 k
 obtain ⟨ih0, ih1, ih2⟩ := spec_CountInCircles.mono_l k
 unfold spec_CountInCircles.f
 repeat' first
   | (with_reducible exact ih0 _ _ _)
   | (with_reducible exact ih1 _ _ _ _)
   | (with_reducible exact ih2 _ _ _ _ _)
   | (with_reducible exact spec_AreFree.mono _ _)
   | (with_reducible exact spec_l29In.mono _ _ _ _ _)
   | (with_reducible exact LeO.refl _)
   | (with_reducible exact LeO.none _)
   | (with_reducible refine LeO.ite ?_ ?_)
   | (with_reducible refine LeO.bind ?_ (fun _ => ?_))
   | exact ih0 _ _ _
   | exact ih1 _ _ _ _
   | exact ih2 _ _ _ _ _
   | exact spec_AreFree.mono _ _
   | exact spec_l29In.mono _ _ _ _ _
   | exact LeO.none _
   | refine LeO.ite ?_ ?_
   | refine LeO.bind ?_ (fun _ => ?_)
set_option maxHeartbeats 8000000 in
set_option maxRecDepth 100000 in
theorem spec_CountInCircles.calls (k : Nat) (A0 : Option Addr) (c0 : Nat) (l0 : List (S25)) (r : Int) (w : World) (hr0 : Kd.C k25 w A0 l0.length l0) (hc0 : l0.length ≤ c0) (h : spec_CountInCircles.f k l0 = some r) :
  Calls Try.prog 31 #[.slice A0 l0.length c0] w fun e w' => e = .returned (.int .i64 r) ∧ Below w.heap.size w w' := by
 have HR0 := Aside0.mk hr0
 have HC0 := Aside0.mk hc0
 clear hr0 hc0
 have HB := Aside0.mk (Below.refl w.heap.size w)
 have H : ((spec_AreFree.f k l0).bind fun t101 => (if t101 = true then (spec_CountInCircles.l0 k l0 0 0) else (some (-1)))) = some r := h
 clear h
 replace H := Option.bind_eq_some_iff.mp H
 obtain ⟨t101, A20, H⟩ := H
 replace H : (if t101 = true then (spec_CountInCircles.l0 k l0 0 0) else (some (-1))) = some r := H
 have A2 := Aside0.mk A20
 clear A20
 by_cases c3 : t101 = true
 ·subst c3
  have H1 : (spec_CountInCircles.l0 k l0 0 0) = some r := by rw [if_pos rfl] at H; exact H
  clear H
  have H := H1
  clear H1
  have H' := Aside0.mk H
  clear H
  go_enter Try.func31, Try.ntmps31
  go_wp2_with (first | ((with_reducible refine gate_callee (f := 21) rfl ?_); refine goesL_ (some 8) rfl rfl Try.func21 (by kernel_rfl) rfl #[.slice A0 l0.length c0] rfl (by (try simp only [List.map_toArray, List.map_cons, List.map_nil]); first | done | rfl | (simp only [List.length_drop, List.length_take]; rfl)) ?_; (with_reducible refine (spec_AreFree.calls k _ _ l0 true _ ?side1 ?side2 A2.out).mono ?_); (case side1 => repeat (first | exact HR0.out | (with_reducible refine Kd.C_alloc ?_ _) | (with_reducible refine Kd.C_drewN ?_ _) | (with_reducible refine Kd.C_drew ?_))); (case side2 => exact HC0.out); rintro e w4 ⟨rfl, hb⟩; refine ⟨_, rfl, ?_⟩; have n0_ := Aside0.mk (below_step (by repeat (first | (with_reducible first | exact HB.out | apply below_alloc | apply pw_below_drewN | apply below_drew1) | exact HB.out)) hb); clear HB; have HB := n0_; clear n0_; (try clear hb); (try clear hb2); (try clear hk); (try clear hi)))
  go_loopg [3, 4] k (fun kq v3 v4 w' => ∃ (x3_1 : Int) (x4_1 : Int), v3 = .int .i64 x3_1 ∧ v4 = .int .i64 x4_1 ∧ Aside0 (spec_CountInCircles.l0 kq l0 x3_1 x4_1 = some r) ∧ Aside0 (kq ≤ k) ∧ Aside0 (Below w.heap.size w w'))
  case atStart => exact ⟨(0), (0), (by first | rfl | (simp; done) | (simp [*]; done)), (by first | rfl | (simp; done) | (simp [*]; done)), H', ⟨Nat.le_refl _⟩, ⟨by repeat (first | (with_reducible first | exact HB.out | apply below_alloc | apply pw_below_drewN | apply below_drew1) | exact HB.out)⟩⟩
  case round =>
   clear H'
   try clear c2
   try clear p2
   try clear c3
   obtain ⟨x3_1, x4_1, rfl, rfl, HA, HK1, HB⟩ := hrel
   cases gk with
   | zero => exact absurd HA.out (by simp [spec_CountInCircles.l0])
   | succ k1 =>
    have H := HA.out
    clear HA
    simp only [spec_CountInCircles.l0] at H
    by_cases c5 : x4_1 < (l0.length : Int)
    ·rw [if_pos c5] at H
     have c5b0 : decide (x4_1 < (l0.length : Int)) = true := decide_eq_true c5
     clear c5
     have H' := Aside0.mk H
     clear H
     go_wp2
     go_loopg [3, 5] k1 (fun kq v3 v5 w' => ∃ (x3_2 : Int) (x5_2 : Int), v3 = .int .i64 x3_2 ∧ v5 = .int .i64 x5_2 ∧ Aside0 (spec_CountInCircles.l1 kq l0 x3_2 x4_1 x5_2 = some r) ∧ Aside0 (kq ≤ k1) ∧ Aside0 (Below w.heap.size w w'))
     case atStart => exact ⟨(x3_1), (wrap64 (x4_1 + 1)), (by first | rfl | (simp; done) | (simp [*]; done)), (by first | rfl | (simp; done) | (simp [*]; done)), H', ⟨Nat.le_refl _⟩, ⟨by repeat (first | (with_reducible first | exact HB.out | apply below_alloc | apply pw_below_drewN | apply below_drew1) | exact HB.out)⟩⟩
     case round =>
      clear H'
      try clear c2
      try clear p2
      try clear c3
      try clear c5
      try clear c5b0
      try clear p2
      obtain ⟨x3_2, x5_2, rfl, rfl, HA, HK2, HB⟩ := hrel
      cases gk with
      | zero => exact absurd HA.out (by simp [spec_CountInCircles.l1])
      | succ k2 =>
       have H := HA.out
       clear HA
       simp only [spec_CountInCircles.l1] at H
       by_cases c6 : x5_2 < (l0.length : Int)
       ·rw [if_pos c6] at H
        have c6b0 : decide (x5_2 < (l0.length : Int)) = true := decide_eq_true c6
        clear c6
        have H' := Aside0.mk H
        clear H
        go_wp2
        go_loopg [3, 6] k2 (fun kq v3 v6 w' => ∃ (x3_3 : Int) (x6_3 : Int), v3 = .int .i64 x3_3 ∧ v6 = .int .i64 x6_3 ∧ Aside0 (spec_CountInCircles.l2 kq l0 x3_3 x4_1 x5_2 x6_3 = some r) ∧ Aside0 (kq ≤ k2) ∧ Aside0 (Below w.heap.size w w'))
        case atStart => exact ⟨(x3_2), (wrap64 (x5_2 + 1)), (by first | rfl | (simp; done) | (simp [*]; done)), (by first | rfl | (simp; done) | (simp [*]; done)), H', ⟨Nat.le_refl _⟩, ⟨by repeat (first | (with_reducible first | exact HB.out | apply below_alloc | apply pw_below_drewN | apply below_drew1) | exact HB.out)⟩⟩
        case round =>
         clear H'
         try clear c2
         try clear p2
         try clear c3
         try clear c5
         try clear c5b0
         try clear c6
         try clear c6b0
         try clear p6
         try clear p2
         obtain ⟨x3_3, x6_3, rfl, rfl, HA, HK3, HB⟩ := hrel
         cases gk with
         | zero => exact absurd HA.out (by simp [spec_CountInCircles.l2])
         | succ k3 =>
          have H := HA.out
          clear HA
          simp only [spec_CountInCircles.l2] at H
          by_cases c7 : x6_3 < (l0.length : Int)
          ·rw [if_pos c7] at H
           have c7b0 : decide (x6_3 < (l0.length : Int)) = true := decide_eq_true c7
           clear c7
           replace H := Option.bind_eq_some_iff.mp H
           obtain ⟨t102, A80, H⟩ := H
           replace H : (spec_CountInCircles.l2 k3 l0 (wrap64 (x3_3 + t102)) x4_1 x5_2 (wrap64 (x6_3 + 1))) = some r := H
           have A8 := Aside0.mk A80
           clear A80
           have H' := Aside0.mk H
           clear H
           go_wp2_with (first | ((with_reducible refine gate_callee (f := 67) rfl ?_); refine goesL_ (some 37) rfl rfl Try.func67 (by kernel_rfl) rfl #[.slice A0 l0.length c0, .int .i64 x4_1, .int .i64 x5_2, .int .i64 x6_3] rfl (by (try simp only [List.map_toArray, List.map_cons, List.map_nil]); first | done | rfl | (simp only [List.length_drop, List.length_take]; rfl)) ?_; (with_reducible refine (spec_l29In.calls k3 _ _ l0 x4_1 x5_2 x6_3 t102 _ ?side1 ?side2 A8.out).mono ?_); (case side1 => repeat (first | exact (Kd.C_below HR0.out HB.out) | (with_reducible refine Kd.C_alloc ?_ _) | (with_reducible refine Kd.C_drewN ?_ _) | (with_reducible refine Kd.C_drew ?_))); (case side2 => exact HC0.out); rintro e w9 ⟨rfl, hb⟩; refine ⟨_, rfl, ?_⟩; have n0_ := Aside0.mk (below_step (by repeat (first | (with_reducible first | exact HB.out | apply below_alloc | apply pw_below_drewN | apply below_drew1) | exact HB.out)) hb); clear HB; have HB := n0_; clear n0_; (try clear hb); (try clear hb2); (try clear hk); (try clear hi)))
           go_roundg k3
           case measure => have := HK1.out; have := HK2.out; have := HK3.out; omega
           case rel => exact ⟨(wrap64 (x3_3 + t102)), (wrap64 (x6_3 + 1)), (by first | rfl | (simp; done) | (simp [*]; done)), (by first | rfl | (simp; done) | (simp [*]; done)), H', ⟨by have := HK1.out; have := HK2.out; have := HK3.out; omega⟩, ⟨by repeat (first | (with_reducible first | exact HB.out | apply below_alloc | apply pw_below_drewN | apply below_drew1) | exact HB.out)⟩⟩
          ·rw [if_neg c7] at H
           have c7b0 : decide (x6_3 < (l0.length : Int)) = false := decide_eq_false c7
           clear c7
           have H' := Aside0.mk H
           clear H
           go_wp2
           go_roundg k3
           case measure => have := HK1.out; have := HK2.out; have := HK3.out; omega
           case rel => exact ⟨(x3_3), (wrap64 (x5_2 + 1)), (by first | rfl | (simp; done) | (simp [*]; done)), (by first | rfl | (simp; done) | (simp [*]; done)), H', ⟨by have := HK1.out; have := HK2.out; have := HK3.out; omega⟩, ⟨by repeat (first | (with_reducible first | exact HB.out | apply below_alloc | apply pw_below_drewN | apply below_drew1) | exact HB.out)⟩⟩
       ·rw [if_neg c6] at H
        have c6b0 : decide (x5_2 < (l0.length : Int)) = false := decide_eq_false c6
        clear c6
        have H' := Aside0.mk H
        clear H
        go_wp2
        go_roundg k2
        case measure => have := HK1.out; have := HK2.out; omega
        case rel => exact ⟨(x3_2), (wrap64 (x4_1 + 1)), (by first | rfl | (simp; done) | (simp [*]; done)), (by first | rfl | (simp; done) | (simp [*]; done)), H', ⟨by have := HK1.out; have := HK2.out; omega⟩, ⟨by repeat (first | (with_reducible first | exact HB.out | apply below_alloc | apply pw_below_drewN | apply below_drew1) | exact HB.out)⟩⟩
    ·rw [if_neg c5] at H
     have c5b0 : decide (x4_1 < (l0.length : Int)) = false := decide_eq_false c5
     clear c5
     obtain rfl := Option.some.inj H
     go_wp2
     go_ret
     exact ⟨by first | rfl | (simp [errW_none, errW_some] <;> rfl) | (simp [*, errW_none, errW_some] <;> rfl), by repeat (first | (with_reducible first | exact HB.out | apply below_alloc | apply pw_below_drewN | apply below_drew1) | exact HB.out)⟩
 ·replace c3 := Bool.eq_false_iff.mpr c3
  subst c3
  have H1 : (some (-1)) = some r := by rw [if_neg (show ¬ (false = true) by decide)] at H; exact H
  clear H
  have H := H1
  clear H1
  obtain rfl := Option.some.inj H
  go_enter Try.func31, Try.ntmps31
  go_wp2_with (first | ((with_reducible refine gate_callee (f := 21) rfl ?_); refine goesL_ (some 8) rfl rfl Try.func21 (by kernel_rfl) rfl #[.slice A0 l0.length c0] rfl (by (try simp only [List.map_toArray, List.map_cons, List.map_nil]); first | done | rfl | (simp only [List.length_drop, List.length_take]; rfl)) ?_; (with_reducible refine (spec_AreFree.calls k _ _ l0 false _ ?side1 ?side2 A2.out).mono ?_); (case side1 => repeat (first | exact HR0.out | (with_reducible refine Kd.C_alloc ?_ _) | (with_reducible refine Kd.C_drewN ?_ _) | (with_reducible refine Kd.C_drew ?_))); (case side2 => exact HC0.out); rintro e w10 ⟨rfl, hb⟩; refine ⟨_, rfl, ?_⟩; have n0_ := Aside0.mk (below_step (by repeat (first | (with_reducible first | exact HB.out | apply below_alloc | apply pw_below_drewN | apply below_drew1) | exact HB.out)) hb); clear HB; have HB := n0_; clear n0_; (try clear hb); (try clear hb2); (try clear hk); (try clear hi)))
  go_ret
  exact ⟨by first | rfl | (simp [errW_none, errW_some] <;> rfl) | (simp [*, errW_none, errW_some] <;> rfl), by repeat (first | (with_reducible first | exact HB.out | apply below_alloc | apply pw_below_drewN | apply below_drew1) | exact HB.out)⟩

end Go.Proofs.Ytijgjpfbhbggdaa.P

namespace Go.Proofs.Ytijgjpfbhbggdaa.P
open Go.RowKit Go.Proofs.YtijgjpfbhbggdaaW.PrintWords Go.Proofs.YtijgjpfbhbggdaaW.PrintLast Go.Proofs.YtijgjpfbhbggdaaW.PrintMore
attribute [local go_sem] max2_int min2_int max_two min_two max_three min_three max_four min_four   -- for this text's walks alone
set_option linter.unusedVariables false
set_option linter.unusedSimpArgs false

/-! ### impl_CountInCircles: function 32 -/
def impl_CountInCircles.l0 : Nat → List (S25) → Int → List (S65) → Int → Int → Option (Int)
 | 0, _, _, _, _, _ => none
 | k + 1, x0, x3, x11, x12, x13 => if x13 < x12 then (if 0 ≤ x13 then (if x13 < (x11.length : Int) then ((impl_inCircle.f k x0 ((rd_T65 x11 x13).f0) ((rd_T65 x11 x13).f1) ((rd_T65 x11 x13).f2)).bind fun t107 => (impl_CountInCircles.l0 k x0 (wrap64 (x3 + t107)) x11 x12 (wrap64 (x13 + 1)))) else (none)) else (none)) else (some x3)
def impl_CountInCircles.f (k : Nat) (l0 : List (S25)) : Option (Int) := (impl_AreFree.f k l0).bind fun t101 => (if t101 = true then ((impl_triplesOf.f k (l0.length : Int)).bind fun t102 => (impl_CountInCircles.l0 k l0 0 t102 (t102.length : Int) 0)) else (some (-1)))
theorem impl_CountInCircles.mono_l : ∀ k, (∀ y0 y1 y2 y3 y4, LeO (impl_CountInCircles.l0 k y0 y1 y2 y3 y4) (impl_CountInCircles.l0 (k + 1) y0 y1 y2 y3 y4))
 | 0 => fun _ _ _ _ _ r h => by simp [impl_CountInCircles.l0] at h
 | k + 1 => by
  have ih0 := impl_CountInCircles.mono_l k
  ·intro y0 y1 y2 y3 y4
   unfold impl_CountInCircles.l0
   repeat' first
   | (with_reducible exact ih0 _ _ _ _ _)
   | (with_reducible exact impl_AreFree.mono _ _)
   | (with_reducible exact impl_inCircle.mono _ _ _ _ _)
   | (with_reducible exact impl_triplesOf.mono _ _)
   | (with_reducible exact LeO.refl _)
   | (with_reducible exact LeO.none _)
   | (with_reducible refine LeO.ite ?_ ?_)
   | (with_reducible refine LeO.bind ?_ (fun _ => ?_))
   | exact ih0 _ _ _ _ _
   | exact impl_AreFree.mono _ _
   | exact impl_inCircle.mono _ _ _ _ _
   | exact impl_triplesOf.mono _ _
   | exact LeO.none _
   | refine LeO.ite ?_ ?_
   | refine LeO.bind ?_ (fun _ => ?_)
theorem impl_CountInCircles.mono : ∀ a0 k, LeO (impl_CountInCircles.f k a0) (impl_CountInCircles.f (k + 1) a0) := by
 intro a0 k
 have ih0 := impl_CountInCircles.mono_l k
 unfold impl_CountInCircles.f
 repeat' first
   | (with_reducible exact ih0 _ _ _ _ _)
   | (with_reducible exact impl_AreFree.mono _ _)
   | (with_reducible exact impl_inCircle.mono _ _ _ _ _)
   | (with_reducible exact impl_triplesOf.mono _ _)
   | (with_reducible exact LeO.refl _)
   | (with_reducible exact LeO.none _)
   | (with_reducible refine LeO.ite ?_ ?_)
   | (with_reducible refine LeO.bind ?_ (fun _ => ?_))
   | exact ih0 _ _ _ _ _
   | exact impl_AreFree.mono _ _
   | exact impl_inCircle.mono _ _ _ _ _
   | exact impl_triplesOf.mono _ _
   | exact LeO.none _
   | refine LeO.ite ?_ ?_
   | refine LeO.bind ?_ (fun _ => ?_)
set_option maxHeartbeats 8000000 in
set_option maxRecDepth 100000 in
theorem impl_CountInCircles.calls (k : Nat) (A0 : Option Addr) (c0 : Nat) (l0 : List (S25)) (r : Int) (w : World) (hr0 : Kd.C k25 w A0 l0.length l0) (hc0 : l0.length ≤ c0) (h : impl_CountInCircles.f k l0 = some r) :
  Calls Try.prog 32 #[.slice A0 l0.length c0] w fun e w' => e = .returned (.int .i64 r) ∧ Below w.heap.size w w' := by
 have hu65 := Try.underlying65
 have HR0 := Aside0.mk hr0
 have HC0 := Aside0.mk hc0
 clear hr0 hc0
 have HB := Aside0.mk (Below.refl w.heap.size w)
 have H : ((impl_AreFree.f k l0).bind fun t101 => (if t101 = true then ((impl_triplesOf.f k (l0.length : Int)).bind fun t102 => (impl_CountInCircles.l0 k l0 0 t102 (t102.length : Int) 0)) else (some (-1)))) = some r := h
 clear h
 replace H := Option.bind_eq_some_iff.mp H
 obtain ⟨t101, A20, H⟩ := H
 replace H : (if t101 = true then ((impl_triplesOf.f k (l0.length : Int)).bind fun t102 => (impl_CountInCircles.l0 k l0 0 t102 (t102.length : Int) 0)) else (some (-1))) = some r := H
 have A2 := Aside0.mk A20
 clear A20
 by_cases c3 : t101 = true
 ·subst c3
  have H1 : ((impl_triplesOf.f k (l0.length : Int)).bind fun t102 => (impl_CountInCircles.l0 k l0 0 t102 (t102.length : Int) 0)) = some r := by rw [if_pos rfl] at H; exact H
  clear H
  have H := H1
  clear H1
  replace H := Option.bind_eq_some_iff.mp H
  obtain ⟨t102, A40, H⟩ := H
  replace H : (impl_CountInCircles.l0 k l0 0 t102 (t102.length : Int) 0) = some r := H
  have A4 := Aside0.mk A40
  clear A40
  have H' := Aside0.mk H
  clear H
  go_enter Try.func32, Try.ntmps32
  go_wp2_with (first | ((with_reducible refine gate_callee (f := 22) rfl ?_); refine goesL_ (some 7) rfl rfl Try.func22 (by kernel_rfl) rfl #[.slice A0 l0.length c0] rfl (by (try simp only [List.map_toArray, List.map_cons, List.map_nil]); first | done | rfl | (simp only [List.length_drop, List.length_take]; rfl)) ?_; (with_reducible refine (impl_AreFree.calls k _ _ l0 true _ ?side1 ?side2 A2.out).mono ?_); (case side1 => repeat (first | exact HR0.out | (with_reducible refine Kd.C_alloc ?_ _) | (with_reducible refine Kd.C_drewN ?_ _) | (with_reducible refine Kd.C_drew ?_))); (case side2 => exact HC0.out); rintro e w5 ⟨rfl, hb⟩; refine ⟨_, rfl, ?_⟩; have n0_ := Aside0.mk (below_step (by repeat (first | (with_reducible first | exact HB.out | apply below_alloc | apply pw_below_drewN | apply below_drew1) | exact HB.out)) hb); clear HB; have HB := n0_; clear n0_; (try clear hb); (try clear hb2); (try clear hk); (try clear hi)) | ((with_reducible refine gate_callee (f := 62) rfl ?_); refine goesL_ (some 11) rfl rfl Try.func62 (by kernel_rfl) rfl #[.int .i64 (l0.length : Int)] rfl (by (try simp only [List.map_toArray, List.map_cons, List.map_nil]); first | done | rfl | (simp only [List.length_drop, List.length_take]; rfl)) ?_; (with_reducible refine (impl_triplesOf.calls k (l0.length : Int) t102 _ A4.out).mono ?_); rintro e w6 ⟨v103, rfl, ho0, hb⟩; refine ⟨_, rfl, ?_⟩; have n0_ := Aside0.mk (Kd.R_lower ho0 (below_size (by repeat (first | (with_reducible first | exact HB.out | apply below_alloc | apply pw_below_drewN | apply below_drew1) | exact HB.out)))); have n1_ := Aside0.mk (below_step (by repeat (first | (with_reducible first | exact HB.out | apply below_alloc | apply pw_below_drewN | apply below_drew1) | exact HB.out)) hb); clear HB; have HO104 := n0_; have HB := n1_; clear n0_ n1_; (try clear hb); (try clear hb2); (try clear hk); (try clear hi); (try clear ho0); obtain ⟨Ao7, co7, eo7⟩ := Kd.R_slice HO104.out; subst eo7))
  go_loopg [3, 13] k (fun kq v3 v13 w' => ∃ (x3_1 : Int) (x13_1 : Int), v3 = .int .i64 x3_1 ∧ v13 = .int .i64 x13_1 ∧ Aside0 (impl_CountInCircles.l0 kq l0 x3_1 t102 (t102.length : Int) x13_1 = some r) ∧ Aside0 (kq ≤ k) ∧ Aside0 (Kd.R k65 65 w' w.heap.size (fun _ => True) (.slice Ao7 t102.length co7) t102) ∧ Aside0 (Below w.heap.size w w'))
  case atStart => exact ⟨(0), (0), (by first | rfl | (simp; done) | (simp [*]; done)), (by first | rfl | (simp; done) | (simp [*]; done)), H', ⟨Nat.le_refl _⟩, ⟨by (with_reducible repeat (first | apply Kd.R_alloc | apply Kd.R_drewN | apply Kd.R_drew)); exact HO104.out⟩, ⟨by repeat (first | (with_reducible first | exact HB.out | apply below_alloc | apply pw_below_drewN | apply below_drew1) | exact HB.out)⟩⟩
  case round =>
   clear H'
   try clear c2
   try clear p2
   try clear c3
   try clear c6
   obtain ⟨x3_1, x13_1, rfl, rfl, HA, HK1, HO_11, HB⟩ := hrel
   cases gk with
   | zero => exact absurd HA.out (by simp [impl_CountInCircles.l0])
   | succ k1 =>
    have H := HA.out
    clear HA
    simp only [impl_CountInCircles.l0] at H
    by_cases c8 : x13_1 < (t102.length : Int)
    ·rw [if_pos c8] at H
     have c8b0 : decide (x13_1 < (t102.length : Int)) = true := decide_eq_true c8
     clear c8
     by_cases c9 : 0 ≤ x13_1
     ·rw [if_pos c9] at H
      have c9b0 : decide (0 ≤ x13_1) = true := decide_eq_true c9
      clear c9
      by_cases c10 : x13_1 < (t102.length : Int)
      ·rw [if_pos c10] at H
       have c10b0 : decide (x13_1 < (t102.length : Int)) = true := decide_eq_true c10
       clear c10
       replace H := Option.bind_eq_some_iff.mp H
       obtain ⟨t107, A110, H⟩ := H
       replace H : (impl_CountInCircles.l0 k1 l0 (wrap64 (x3_1 + t107)) t102 (t102.length : Int) (wrap64 (x13_1 + 1))) = some r := H
       have A11 := Aside0.mk A110
       clear A110
       have H' := Aside0.mk H
       clear H
       have p105 : 0 ≤ (x13_1 : Int) := of_decide_eq_true (by first | (with_reducible assumption) | assumption)
       have q105 : x13_1 < (t102.length : Int) := of_decide_eq_true (by first | (with_reducible assumption) | assumption)
       obtain ⟨ad105, e105, hx105_0, hx105_1, hx105_2⟩ := at_T65 (Kd.R_reads' HO_11.out).2.2 x13_1 p105 q105
       cases e105
       replace p105 := eq_true p105
       replace q105 := eq_true q105
       go_wp2_with (first | ((with_reducible refine gate_dst (N := 5) rfl ?_); refine box_event ?hg (N := 5) ?hd (cs := #[.int .i64 0, .int .i64 0, .int .i64 0]) (t := 65) ?hr ?_; (case hd => rfl); (case hg => rfl); (case hr => first | (go_simp; done) | (go_simp; rfl)); intro gb106 hg w12 hbox hb; have n0_ := Aside0.mk (Kd.R_below (Kd.R_elderB (by (with_reducible repeat (first | apply Kd.R_alloc | apply Kd.R_drewN | apply Kd.R_drew)); exact HO_11.out) gb106 (Nat.le_of_eq hg.symm)) hb); have n1_ := Aside0.mk (below_step (by repeat (first | (with_reducible first | exact HB.out | apply below_alloc | apply pw_below_drewN | apply below_drew1) | exact HB.out)) hb); have n2_ := Aside0.mk (hbox); have n3_ := Aside0.mk ((by rw [hg]; exact (below_size (by repeat (first | (with_reducible first | exact HB.out | apply below_alloc | apply pw_below_drewN | apply below_drew1) | exact HB.out))) : w.heap.size ≤ gb106)); have n4_ := Aside0.mk ((by rw [hg]; exact (below_size (by repeat (first | (with_reducible first | exact HB.out | apply below_alloc | apply pw_below_drewN | apply below_drew1) | exact HB.out))) : w.heap.size ≤ gb106)); clear HO_11; clear HB; have HO_11 := n0_; have HB := n1_; have BK106 := n2_; have GW106 := n3_; have GE106 := n4_; clear n0_ n1_ n2_ n3_ n4_; clear hb hbox hg; have hcz13_0 : w12.cell? ⟨gb106, 0, none⟩ = some (.int .i64 0) := (blk_cell BK106.out 0).trans rfl; have hcz13_1 : w12.cell? ⟨gb106, 1, none⟩ = some (.int .i64 0) := (blk_cell BK106.out 1).trans rfl; have hcz13_2 : w12.cell? ⟨gb106, 2, none⟩ = some (.int .i64 0) := (blk_cell BK106.out 2).trans rfl; have hfz13_0 := blk_frozen BK106.out 0; have hfz13_1 := blk_frozen BK106.out 1; have hfz13_2 := blk_frozen BK106.out 2) | ((with_reducible refine gate_callee (f := 68) rfl ?_); refine goesL_ (some 20) rfl rfl Try.func68 (by kernel_rfl) rfl #[.slice A0 l0.length c0, .agg #[.int .i64 ((rd_T65 t102 x13_1).f0), .int .i64 ((rd_T65 t102 x13_1).f1), .int .i64 ((rd_T65 t102 x13_1).f2)]] rfl (by (try simp only [List.map_toArray, List.map_cons, List.map_nil]); first | done | rfl | (simp only [List.length_drop, List.length_take]; rfl)) ?_; (with_reducible refine (impl_inCircle.calls k1 _ _ l0 ((rd_T65 t102 x13_1).f0) ((rd_T65 t102 x13_1).f1) ((rd_T65 t102 x13_1).f2) t107 _ ?side1 ?side2 A11.out).mono ?_); (case side1 => exact Kd.C_below HR0.out (by repeat (first | (with_reducible first | exact HB.out | apply below_alloc | apply pw_below_drewN | apply below_drew1 | refine below_set ?_ GE106.out) | exact HB.out))); (case side2 => exact HC0.out); rintro e w14 ⟨rfl, hb⟩; refine ⟨_, rfl, ?_⟩; have n0_ := Aside0.mk (Kd.R_below (by (with_reducible repeat (first | apply Kd.R_alloc | apply Kd.R_drewN | apply Kd.R_drew)); exact (Kd.R_mono (Kd.R_far (p := ⟨gb106, 2, none⟩) (Kd.R_far (p := ⟨gb106, 1, none⟩) (Kd.R_far (p := ⟨gb106, 0, none⟩) (Kd.R_mono HO_11.out (fun k_ hk => (⟨hk, hk.2⟩ : _ ∧ k_ ≠ gb106))) (fun _ hk => hk.2) (.int .i64 ((rd_T65 t102 x13_1).f0))) (fun _ hk => hk.2) (.int .i64 ((rd_T65 t102 x13_1).f1))) (fun _ hk => hk.2) (.int .i64 ((rd_T65 t102 x13_1).f2))) (fun _ h_ => h_.1))) hb); have n1_ := Aside0.mk (blk_below (g := gb106) (o := .cells #[.int .i64 ((rd_T65 t102 x13_1).f0), .int .i64 ((rd_T65 t102 x13_1).f1), .int .i64 ((rd_T65 t102 x13_1).f2)] 65 (0, 0)) (by (with_reducible repeat (first | refine blk_drewN ?_ _ | refine blk_drew ?_ | refine blk_alloc ?_ _)); refine blk_put (cs := #[.int .i64 ((rd_T65 t102 x13_1).f0), .int .i64 ((rd_T65 t102 x13_1).f1), .int .i64 0]) ?_ 2 _ rfl; (with_reducible repeat (first | refine blk_drewN ?_ _ | refine blk_drew ?_ | refine blk_alloc ?_ _)); refine blk_put (cs := #[.int .i64 ((rd_T65 t102 x13_1).f0), .int .i64 0, .int .i64 0]) ?_ 1 _ rfl; (with_reducible repeat (first | refine blk_drewN ?_ _ | refine blk_drew ?_ | refine blk_alloc ?_ _)); refine blk_put (cs := #[.int .i64 0, .int .i64 0, .int .i64 0]) ?_ 0 _ rfl; (with_reducible repeat (first | refine blk_drewN ?_ _ | refine blk_drew ?_ | refine blk_alloc ?_ _)); exact BK106.out) hb); have n2_ := Aside0.mk (below_step (by repeat (first | (with_reducible first | exact HB.out | apply below_alloc | apply pw_below_drewN | apply below_drew1 | refine below_set ?_ GE106.out) | exact HB.out)) hb); clear HO_11; clear BK106; clear HB; have HO_11 := n0_; have BK106 := n1_; have HB := n2_; clear n0_ n1_ n2_; (try clear hb); (try clear hb2); (try clear hk); (try clear hi)))
       go_roundg k1
       case measure => have := HK1.out; omega
       case rel => exact ⟨(wrap64 (x3_1 + t107)), (wrap64 (x13_1 + 1)), (by first | rfl | (simp; done) | (simp [*]; done)), (by first | rfl | (simp; done) | (simp [*]; done)), H', ⟨by have := HK1.out; omega⟩, ⟨by (with_reducible repeat (first | apply Kd.R_alloc | apply Kd.R_drewN | apply Kd.R_drew)); exact Kd.R_mono HO_11.out (fun _ hk => trivial)⟩, ⟨by repeat (first | (with_reducible first | exact HB.out | apply below_alloc | apply pw_below_drewN | apply below_drew1 | refine below_set ?_ GE106.out) | exact HB.out)⟩⟩
      ·rw [if_neg c10] at H
       exact absurd H (by simp)
     ·rw [if_neg c9] at H
      exact absurd H (by simp)
    ·rw [if_neg c8] at H
     have c8b0 : decide (x13_1 < (t102.length : Int)) = false := decide_eq_false c8
     clear c8
     obtain rfl := Option.some.inj H
     go_wp2
     go_ret
     exact ⟨by first | rfl | (simp [errW_none, errW_some] <;> rfl) | (simp [*, errW_none, errW_some] <;> rfl), by repeat (first | (with_reducible first | exact HB.out | apply below_alloc | apply pw_below_drewN | apply below_drew1) | exact HB.out)⟩
 ·replace c3 := Bool.eq_false_iff.mpr c3
  subst c3
  have H1 : (some (-1)) = some r := by rw [if_neg (show ¬ (false = true) by decide)] at H; exact H
  clear H
  have H := H1
  clear H1
  obtain rfl := Option.some.inj H
  go_enter Try.func32, Try.ntmps32
  go_wp2_with (first | ((with_reducible refine gate_callee (f := 22) rfl ?_); refine goesL_ (some 7) rfl rfl Try.func22 (by kernel_rfl) rfl #[.slice A0 l0.length c0] rfl (by (try simp only [List.map_toArray, List.map_cons, List.map_nil]); first | done | rfl | (simp only [List.length_drop, List.length_take]; rfl)) ?_; (with_reducible refine (impl_AreFree.calls k _ _ l0 false _ ?side1 ?side2 A2.out).mono ?_); (case side1 => repeat (first | exact HR0.out | (with_reducible refine Kd.C_alloc ?_ _) | (with_reducible refine Kd.C_drewN ?_ _) | (with_reducible refine Kd.C_drew ?_))); (case side2 => exact HC0.out); rintro e w15 ⟨rfl, hb⟩; refine ⟨_, rfl, ?_⟩; have n0_ := Aside0.mk (below_step (by repeat (first | (with_reducible first | exact HB.out | apply below_alloc | apply pw_below_drewN | apply below_drew1) | exact HB.out)) hb); clear HB; have HB := n0_; clear n0_; (try clear hb); (try clear hb2); (try clear hk); (try clear hi)))
  go_ret
  exact ⟨by first | rfl | (simp [errW_none, errW_some] <;> rfl) | (simp [*, errW_none, errW_some] <;> rfl), by repeat (first | (with_reducible first | exact HB.out | apply below_alloc | apply pw_below_drewN | apply below_drew1) | exact HB.out)⟩

end Go.Proofs.Ytijgjpfbhbggdaa.P

namespace Go.Proofs.Ytijgjpfbhbggdaa.Pure
open Go.RowKit Go.Proofs.Ytijgjpfbhbggdaa.P Go.Proofs.YtijgjpfbhbggdaaW.PrintWords Go.Proofs.YtijgjpfbhbggdaaW.PrintLast Go.Proofs.Ytijgjpfbhbggdaa.Com
set_option linter.unusedSimpArgs false
set_option linter.unusedVariables false

def sumIn (l : List S25) : Int := foldX (σ := Int) (ρ := Int) (fun s t => .inl (wrap64 (s + countIn l t.1 t.2.1 t.2.2))) id (trips l.length) 0
def circlesN (l : List S25) : Int := if freeB l = true then sumIn l else -1
theorem free_points {l : List S25} (h : freeB l = true) : pointsB l = true ∧ l.length ≤ 6 := by
  unfold freeB at h; simp only [Bool.and_eq_true, decide_eq_true_eq] at h; exact h.1
theorem trips_small (n : Nat) (h : n ≤ 7) : (trips n).length ≤ 35 := by
  have z : n = 0 ∨ n = 1 ∨ n = 2 ∨ n = 3 ∨ n = 4 ∨ n = 5 ∨ n = 6 ∨ n = 7 := by omega
  rcases z with h | h | h | h | h | h | h | h <;> rw [h] <;> decide +kernel
theorem spec_Circles_ev (l : List S25) (hl : l.length ≤ 1099511627776) : Ev (fun k => spec_CountInCircles.f k l) (circlesN l) := by
  simp only [spec_CountInCircles.f, circlesN]
  refine Ev.bind (spec_AreFree_ev l hl) ?_
  cases hf : freeB l with
  | false => exact Ev.now _
  | true =>
    simp only [if_true]
    obtain ⟨hp, h6⟩ := free_points hf
    have hF : ∀ i : Int, 0 ≤ i → i < (l.length : Int) → fits50 l i = true := fun i h0 h1 => points_fit hp h0 h1
    unfold sumIn
    refine tripLoop (l0 := fun q s i => spec_CountInCircles.l0 q l s i) (l1 := fun q s i j => spec_CountInCircles.l1 q l s i j) (l2 := fun q s i j k => spec_CountInCircles.l2 q l s i j k) l.length _ id ?_ ?_ ?_ ?_ ?_ ?_ 0
    · intro s i j k h0 h1 h2 h3 r hT
      have hT := stepT_inl hT rfl
      refine Ev.step (f := fun q => (spec_l29In.f q l i j k).bind fun t => spec_CountInCircles.l2 q l (wrap64 (s + t)) i j (k + 1)) (fun q => ?_) (Ev.bind (l29In_ev l (by omega) hF i j k ⟨h0, by omega⟩ ⟨by omega, by omega⟩ ⟨by omega, h3⟩) hT)
      simp only [spec_CountInCircles.l2]
      rw [if_pos h3, w64 (x := k + 1) (by omega) (by omega)]
    · intro s i j h0 h1 h2 r h
      refine Ev.step (f := fun q => spec_CountInCircles.l1 q l s i (j + 1)) (fun q => ?_) h
      simp only [spec_CountInCircles.l2]
      rw [if_neg (by omega), w64 (by omega) (by omega)]
    · intro s i j h0 h1 h2 r h
      refine Ev.step (f := fun q => spec_CountInCircles.l2 q l s i j (j + 1)) (fun q => ?_) h
      simp only [spec_CountInCircles.l1]
      rw [if_pos h2, w64 (by omega) (by omega)]
    · intro s i h0 h1 r h
      refine Ev.step (f := fun q => spec_CountInCircles.l0 q l s (i + 1)) (fun q => ?_) h
      simp only [spec_CountInCircles.l1]
      rw [if_neg (by omega), w64 (by omega) (by omega)]
    · intro s i h0 h1 r h
      refine Ev.step (f := fun q => spec_CountInCircles.l1 q l s i (i + 1)) (fun q => ?_) h
      simp only [spec_CountInCircles.l0]
      rw [if_pos h1, w64 (by omega) (by omega)]
    · intro s
      refine Ev.step (f := fun _ => some s) (fun q => ?_) (Ev.now s)
      simp only [spec_CountInCircles.l0]
      rw [if_neg (by omega)]
theorem impl_Circles_ev (l : List S25) (hl : l.length ≤ 1099511627776) : Ev (fun k => impl_CountInCircles.f k l) (circlesN l) := by
  simp only [impl_CountInCircles.f, circlesN]
  refine Ev.bind (impl_AreFree_ev l hl) ?_
  cases hf : freeB l with
  | false => exact Ev.now _
  | true =>
    simp only [if_true]
    obtain ⟨hp, h6⟩ := free_points hf
    have hF : ∀ i : Int, 0 ≤ i → i < (l.length : Int) → fits50 l i = true := fun i h0 h1 => points_fit hp h0 h1
    refine Ev.bind (triples_eq l.length (by omega)) ?_
    have hb : (((trips l.length).map mk3).length : Int) ≤ 35 := by
      have := trips_small l.length (by omega)
      rw [List.length_map]; omega
    have e : sumIn l = foldX (σ := Int) (ρ := Int) (fun s t => .inl (wrap64 (s + countIn l t.f0 t.f1 t.f2))) id ((trips l.length).map mk3) 0 := by
      rw [foldX_map]; rfl
    rw [e]
    refine foldLoop (l0 := fun q s i => impl_CountInCircles.l0 q l s _ _ i) ((trips l.length).map mk3) z65 _ id ?_ ?_ 0
    · intro s i hi0 hin hm r hT
      have hT := stepT_inl hT rfl
      generalize hg : ((trips l.length).map mk3).getD i.toNat z65 = t at hm hT
      have hr : rd_T65 ((trips l.length).map mk3) i = t := hg
      obtain ⟨⟨a, b, c⟩, hm3, rfl⟩ := List.mem_map.1 hm
      have hm := trips_mem.1 hm3
      refine Ev.step (f := fun q => (impl_inCircle.f q l a b c).bind fun t => impl_CountInCircles.l0 q l (wrap64 (s + t)) ((trips l.length).map mk3) (((trips l.length).map mk3).length : Int) (i + 1)) (fun q => ?_) (Ev.bind (inCircle_ev l (by omega) hF a b c ⟨by omega, by omega⟩ ⟨by omega, by omega⟩ ⟨by omega, by omega⟩) hT)
      simp only [impl_CountInCircles.l0, hr, mk3]
      have hlen : i < (((trips l.length).map mk3).length : Int) := hin
      rw [if_pos hlen, if_pos hi0, if_pos hlen, w64 (x := i + 1) (by omega) (by omega)]
    · intro s
      refine Ev.step (f := fun _ => some s) (fun q => ?_) (Ev.now s)
      simp only [impl_CountInCircles.l0]
      rw [if_neg (by omega)]
end Go.Proofs.Ytijgjpfbhbggdaa.Pure

namespace Go.Proofs.Ytijgjpfbhbggdaa.Pure
open Go.RowKit Go.Proofs.Ytijgjpfbhbggdaa.P Go.Proofs.YtijgjpfbhbggdaaW.PrintWords Go.Proofs.YtijgjpfbhbggdaaW.PrintLast Go.Proofs.Ytijgjpfbhbggdaa.Com
set_option linter.unusedSimpArgs false
set_option linter.unusedVariables false

/-- A triple whose circle has no point inside, as a row. -/
def emptyAt (l : List S25) (t : Int × Int × Int) : Option (List Int) := if countIn l t.1 t.2.1 t.2.2 = 0 then some [t.1, t.2.1, t.2.2] else none
def roundL (l : List S25) : List (List Int) := if freeB l = true then (trips l.length).filterMap (emptyAt l) else []
theorem roundL_mem {l : List S25} {x : List Int} (h : x ∈ roundL l) : l.length ≤ 6 ∧ ∃ i j k, x = [i, j, k] ∧ 0 ≤ i ∧ i < j ∧ j < k ∧ k < (l.length : Int) := by
  unfold roundL at h
  split at h
  · rename_i hf
    obtain ⟨t, ht, hx⟩ := List.mem_filterMap.1 h
    unfold emptyAt at hx
    split at hx
    · obtain ⟨i, j, k⟩ := t
      exact ⟨(free_points hf).2, i, j, k, (Option.some.inj hx).symm, trips_mem.1 ht⟩
    · cases hx
  · cases h
theorem roundL_length (l : List S25) : (roundL l).length ≤ 35 := by
  unfold roundL
  split
  · rename_i hf
    have h6 := (free_points hf).2
    exact Nat.le_trans (List.length_filterMap_le _ _) (trips_small l.length (by omega))
  · simp
theorem spec_Round_ev (l : List S25) (hl : l.length ≤ 1099511627776) : Ev (fun k => spec_RoundTriangles.f k l) (roundL l) := by
  simp only [spec_RoundTriangles.f]
  cases hf : freeB l with
  | false =>
    unfold roundL
    rw [hf, if_neg (by decide)]
    by_cases h0 : 0 < l.length
    · refine Ev.step (f := fun q => (spec_AreFree.f q l).bind fun t => spec_RoundTriangles.j1 q l [] 0 t) (fun q => by simp only [spec_RoundTriangles.l0]; rw [if_pos (by omega)]) ?_
      refine Ev.bind (spec_AreFree_ev l hl) ?_
      rw [hf]
      exact Ev.step (f := fun _ => some ([] : List (List Int))) (fun q => by simp only [spec_RoundTriangles.j1]; rw [if_neg (by decide)]) (Ev.now _)
    · refine Ev.step (f := fun q => spec_RoundTriangles.j1 q l [] 0 false) (fun q => by simp only [spec_RoundTriangles.l0]; rw [if_neg (by omega)]) ?_
      exact Ev.step (f := fun _ => some ([] : List (List Int))) (fun q => by simp only [spec_RoundTriangles.j1]; rw [if_neg (by decide)]) (Ev.now _)
  | true =>
    obtain ⟨hp, h6⟩ := free_points hf
    have hF : ∀ i : Int, 0 ≤ i → i < (l.length : Int) → fits50 l i = true := fun i h0 h1 => points_fit hp h0 h1
    have h35 := trips_small l.length (by omega)
    refine tripLoopT (σ := List (List Int)) (l0 := fun q s i => spec_RoundTriangles.l0 q l s i) (l1 := fun q s i j => spec_RoundTriangles.l1 q l s i j) (l2 := fun q s i j k => spec_RoundTriangles.l2 q l s i j k) l.length (pushT_mono (emptyAt l)) (C := fun s r => r = s) ?_ ?_ ?_ ?_ ?_ ?_ [] _ (pushT_fold (emptyAt l) _ _ [] _ (by simp; omega) ?_)
    · intro s i j k h0 h1 h2 h3 r hT
      refine Ev.step (f := fun q => (spec_l29In.f q l i j k).bind fun t => if t = 0 then (if s.length < 5864062014805 then (spec_RoundTriangles.l2 q l (s ++ [([i, j, k] : List Int)]) i j (k + 1)) else none) else spec_RoundTriangles.l2 q l s i j (k + 1)) (fun q => ?_) (Ev.bind (l29In_ev l (by omega) hF i j k ⟨h0, by omega⟩ ⟨by omega, by omega⟩ ⟨by omega, h3⟩) ?_)
      · simp only [spec_RoundTriangles.l2]
        rw [if_pos h3, w64 (x := k + 1) (by omega) (by omega)]
      by_cases hc : countIn l i j k = 0
      · obtain ⟨hb, h⟩ := pushT_some hT (show emptyAt l (i, j, k) = some [i, j, k] from if_pos hc)
        exact Ev.iteT hc (Ev.iteT (by omega) h)
      · exact Ev.iteF hc (pushT_none hT (show emptyAt l (i, j, k) = none from if_neg hc))
    · intro s i j h0 h1 h2 r h
      refine Ev.step (f := fun q => spec_RoundTriangles.l1 q l s i (j + 1)) (fun q => ?_) h
      simp only [spec_RoundTriangles.l2]
      rw [if_neg (by omega), w64 (by omega) (by omega)]
    · intro s i j h0 h1 h2 r h
      refine Ev.step (f := fun q => spec_RoundTriangles.l2 q l s i j (j + 1)) (fun q => ?_) h
      simp only [spec_RoundTriangles.l1]
      rw [if_pos h2, w64 (by omega) (by omega)]
    · intro s i h0 h1 r h
      refine Ev.step (f := fun q => spec_RoundTriangles.l0 q l s (i + 1)) (fun q => ?_) h
      simp only [spec_RoundTriangles.l1]
      rw [if_neg (by omega), w64 (by omega) (by omega)]
    · intro s i h0 h1 r h
      refine Ev.step (f := fun q => (spec_AreFree.f q l).bind fun t => spec_RoundTriangles.j1 q l s i t) (fun q => by simp only [spec_RoundTriangles.l0]; rw [if_pos h1]) ?_
      refine Ev.bind (spec_AreFree_ev l hl) ?_
      rw [hf]
      refine Ev.step (f := fun q => spec_RoundTriangles.l1 q l s i (i + 1)) (fun q => ?_) h
      simp only [spec_RoundTriangles.j1]
      rw [if_pos trivial, w64 (by omega) (by omega)]
    · rintro s r rfl
      refine Ev.step (f := fun q => spec_RoundTriangles.j1 q l r l.length false) (fun q => by simp only [spec_RoundTriangles.l0]; rw [if_neg (by omega)]) ?_
      exact Ev.step (f := fun _ => some r) (fun q => by simp only [spec_RoundTriangles.j1]; rw [if_neg (by decide)]) (Ev.now _)
    · unfold roundL
      rw [hf, if_pos rfl]; simp
theorem impl_Round_ev (l : List S25) (hl : l.length ≤ 1099511627776) : Ev (fun k => impl_RoundTriangles.f k l) (roundL l) := by
  simp only [impl_RoundTriangles.f]
  refine Ev.bind (impl_AreFree_ev l hl) ?_
  cases hf : freeB l with
  | false =>
    unfold roundL
    rw [hf]
    exact Ev.iteF (by decide) (Ev.now _)
  | true =>
    obtain ⟨hp, h6⟩ := free_points hf
    have hF : ∀ i : Int, 0 ≤ i → i < (l.length : Int) → fits50 l i = true := fun i h0 h1 => points_fit hp h0 h1
    have h35 := trips_small l.length (by omega)
    refine Ev.iteT rfl (Ev.bind (triples_eq l.length (by omega)) ?_)
    have hb : (((trips l.length).map mk3).length : Int) ≤ 35 := by rw [List.length_map]; omega
    refine listLoop0 (σ := List (List Int)) (l := fun q s i => impl_RoundTriangles.l0 q l s _ _ i) ((trips l.length).map mk3) z65 (T := pushT fun t => emptyAt l (t.f0, t.f1, t.f2)) (pushT_mono _) (C := fun s r => r = s) ?_ ?_ [] _ ?_
    · intro s i hi0 hin r hT
      have hm := getD_mem ((trips l.length).map mk3) i.toNat z65 (by omega)
      generalize hg : ((trips l.length).map mk3).getD i.toNat z65 = t at hm hT
      have hr : rd_T65 ((trips l.length).map mk3) i = t := hg
      obtain ⟨⟨a, b, c⟩, hm3, rfl⟩ := List.mem_map.1 hm
      have hm := trips_mem.1 hm3
      refine Ev.step (f := fun q => (impl_inCircle.f q l a b c).bind fun t => if t = 0 then (if s.length < 5864062014805 then impl_RoundTriangles.l0 q l (s ++ [([a, b, c] : List Int)]) ((trips l.length).map mk3) (((trips l.length).map mk3).length : Int) (i + 1) else none) else impl_RoundTriangles.l0 q l s ((trips l.length).map mk3) (((trips l.length).map mk3).length : Int) (i + 1)) (fun q => ?_) (Ev.bind (inCircle_ev l (by omega) hF a b c ⟨by omega, by omega⟩ ⟨by omega, by omega⟩ ⟨by omega, by omega⟩) ?_)
      · simp only [impl_RoundTriangles.l0, hr, mk3]
        have hlen : i < (((trips l.length).map mk3).length : Int) := hin
        rw [if_pos hlen, if_pos hi0, if_pos hlen, w64 (x := i + 1) (by omega) (by omega)]
      by_cases hc : countIn l a b c = 0
      · obtain ⟨hb, h⟩ := pushT_some hT (show emptyAt l (a, b, c) = some [a, b, c] from if_pos hc)
        exact Ev.iteT hc (Ev.iteT (by omega) h)
      · exact Ev.iteF hc (pushT_none hT (show emptyAt l (a, b, c) = none from if_neg hc))
    · rintro s r rfl
      exact Ev.step (f := fun _ => some r) (fun q => by simp only [impl_RoundTriangles.l0]; rw [if_neg (by omega)]) (Ev.now _)
    · refine pushT_fold _ _ _ [] _ (by rw [List.length_map]; simp; omega) ?_
      unfold roundL
      rw [hf, if_pos rfl, List.nil_append, List.filterMap_map]
      rfl
end Go.Proofs.Ytijgjpfbhbggdaa.Pure

namespace Go.Proofs.Ytijgjpfbhbggdaa.Pure
open Go.RowKit Go.Proofs.Ytijgjpfbhbggdaa.P Go.Proofs.YtijgjpfbhbggdaaW.PrintWords Go.Proofs.YtijgjpfbhbggdaaW.PrintLast Go.Proofs.Ytijgjpfbhbggdaa.Com
set_option linter.unusedSimpArgs false
set_option linter.unusedVariables false

def edgeN (n i j : Int) : Int := (spec_l9Index.f 60 n i j).getD 0
theorem edges_small : ([3, 4, 5, 6].all fun n : Nat => (pairs n).all fun p => (spec_l9Index.f 60 (n : Int) p.1 p.2).isSome && (impl_EdgeIndex.f 60 (n : Int) p.1 p.2 == spec_l9Index.f 60 (n : Int) p.1 p.2) && decide (0 ≤ edgeN n p.1 p.2) && decide (edgeN n p.1 p.2 ≤ 20)) = true := by decide +kernel
theorem edge_both (n : Nat) (h3 : 3 ≤ n) (h6 : n ≤ 6) {i j : Int} (h0 : 0 ≤ i) (h1 : i < j) (h2 : j < (n : Int)) :
    Ev (fun k => spec_l9Index.f k (n : Int) i j) (edgeN n i j) ∧ Ev (fun k => impl_EdgeIndex.f k (n : Int) i j) (edgeN n i j) ∧ 0 ≤ edgeN n i j ∧ edgeN n i j ≤ 20 := by
  have hn : n ∈ [3, 4, 5, 6] := by simp; omega
  have h := List.all_eq_true.1 (List.all_eq_true.1 edges_small n hn) (i, j) (pairs_mem.2 ⟨h0, h1, h2⟩)
  simp only [Bool.and_eq_true, beq_iff_eq, decide_eq_true_eq] at h
  obtain ⟨⟨⟨hs, he⟩, ha⟩, hb⟩ := h
  obtain ⟨e, hs⟩ := Option.isSome_iff_exists.1 hs
  have hg : edgeN n i j = e := by unfold edgeN; rw [hs]; rfl
  rw [hs] at he
  rw [hg] at ha hb ⊢
  exact ⟨Ev.of (fun k => spec_l9Index.mono _ _ _ k) hs, Ev.of (fun k => impl_EdgeIndex.mono _ _ _ k) he, ha, hb⟩
theorem wrap_small (e : Int) (h0 : 0 ≤ e) (h1 : e ≤ 20) : IntKind.u64.wrap e = e := by
  have : ∀ i : Fin 21, IntKind.u64.wrap (i.val : Int) = (i.val : Int) := by decide +kernel
  have h := this ⟨e.toNat, by omega⟩
  rwa [show ((e.toNat : Nat) : Int) = e by omega] at h
/-- A triangle's edges are put to the set. -/
def putEdges (n s : Int) (x : List Int) : Int :=
  Go.bits .or .i64 (Go.bits .or .i64 (Go.bits .or .i64 s (shl .i64 1 (edgeN n (rd x 0) (rd x 1)))) (shl .i64 1 (edgeN n (rd x 0) (rd x 2)))) (shl .i64 1 (edgeN n (rd x 1) (rd x 2)))
def edgesL (l : List S25) : Int := (roundL l).foldl (putEdges l.length) 0
theorem spec_Edges_ev (l : List S25) (hl : l.length ≤ 1099511627776) : Ev (fun k => spec_RoundEdges.f k l) (edgesL l) := by
  simp only [spec_RoundEdges.f]
  refine Ev.bind (spec_Round_ev l hl) ?_
  have hb := roundL_length l
  refine listLoop0 (σ := Int) (ρ := Int) (l := fun q s i => spec_RoundEdges.l0 q l s (roundL l) i) (roundL l) [] (T := Com.stepT fun s x => .inl (putEdges l.length s x)) (stepT_mono _) (C := fun s r => r = s) ?_ ?_ 0 _ ((foldT_foldl _ _ _ 0 _).2 rfl)
  · intro s i hi0 hin r hT
    have hT := stepT_inl hT rfl
    have hm := getD_mem (roundL l) i.toNat [] (by omega)
    generalize hg : (roundL l).getD i.toNat [] = x at hm hT
    have hr : rd_L8 (roundL l) i = x := hg
    obtain ⟨h6, a, b, c, rfl, ha, hab, hbc, hc⟩ := roundL_mem hm
    obtain ⟨e1, _, p1, q1⟩ := edge_both l.length (by omega) h6 ha hab (by omega)
    obtain ⟨e2, _, p2, q2⟩ := edge_both l.length (by omega) h6 ha (show a < c by omega) hc
    obtain ⟨e3, _, p3, q3⟩ := edge_both l.length (by omega) h6 (show 0 ≤ b by omega) hbc hc
    refine Ev.step (f := fun q => (spec_l9Index.f q (l.length : Int) a b).bind fun t => if 0 ≤ IntKind.u64.wrap t then (spec_l9Index.f q (l.length : Int) a c).bind fun u => if 0 ≤ IntKind.u64.wrap u then (spec_l9Index.f q (l.length : Int) b c).bind fun v => if 0 ≤ IntKind.u64.wrap v then spec_RoundEdges.l0 q l (Go.bits .or .i64 (Go.bits .or .i64 (Go.bits .or .i64 s (shl .i64 1 (IntKind.u64.wrap t))) (shl .i64 1 (IntKind.u64.wrap u))) (shl .i64 1 (IntKind.u64.wrap v))) (roundL l) (i + 1) else none else none else none) (fun q => ?_) ?_
    · simp only [spec_RoundEdges.l0, hr]
      rw [if_pos hin, if_pos hi0, if_pos (by simp), if_pos (by simp), w64 (x := i + 1) (by omega) (by omega)]
      rfl
    · refine Ev.bind e1 (Ev.iteT (by rw [wrap_small _ p1 q1]; exact p1) (Ev.bind e2 (Ev.iteT (by rw [wrap_small _ p2 q2]; exact p2) (Ev.bind e3 (Ev.iteT (by rw [wrap_small _ p3 q3]; exact p3) ?_)))))
      rw [wrap_small _ p1 q1, wrap_small _ p2 q2, wrap_small _ p3 q3]
      exact hT
  · rintro s r rfl
    exact Ev.step (f := fun _ => some r) (fun q => by simp only [spec_RoundEdges.l0]; rw [if_neg (by omega)]) (Ev.now _)
theorem impl_Edges_ev (l : List S25) (hl : l.length ≤ 1099511627776) : Ev (fun k => impl_RoundEdges.f k l) (edgesL l) := by
  simp only [impl_RoundEdges.f]
  refine Ev.bind (impl_Round_ev l hl) ?_
  have hb := roundL_length l
  refine listLoop0 (σ := Int) (ρ := Int) (l := fun q s i => impl_RoundEdges.l0 q s (l.length : Int) (roundL l) ((roundL l).length : Int) i) (roundL l) [] (T := Com.stepT fun s x => .inl (putEdges l.length s x)) (stepT_mono _) (C := fun s r => r = s) ?_ ?_ 0 _ ((foldT_foldl _ _ _ 0 _).2 rfl)
  · intro s i hi0 hin r hT
    have hT := stepT_inl hT rfl
    have hm := getD_mem (roundL l) i.toNat [] (by omega)
    generalize hg : (roundL l).getD i.toNat [] = x at hm hT
    have hr : rd_L8 (roundL l) i = x := hg
    obtain ⟨h6, a, b, c, rfl, ha, hab, hbc, hc⟩ := roundL_mem hm
    obtain ⟨_, e1, p1, q1⟩ := edge_both l.length (by omega) h6 ha hab (by omega)
    obtain ⟨_, e2, p2, q2⟩ := edge_both l.length (by omega) h6 ha (show a < c by omega) hc
    obtain ⟨_, e3, p3, q3⟩ := edge_both l.length (by omega) h6 (show 0 ≤ b by omega) hbc hc
    refine Ev.step (f := fun q => (impl_EdgeIndex.f q (l.length : Int) a b).bind fun t => if 0 ≤ t then (impl_EdgeIndex.f q (l.length : Int) a c).bind fun u => if 0 ≤ u then (impl_EdgeIndex.f q (l.length : Int) b c).bind fun v => if 0 ≤ v then impl_RoundEdges.l0 q (Go.bits .or .i64 (Go.bits .or .i64 (Go.bits .or .i64 s (shl .i64 1 t)) (shl .i64 1 u)) (shl .i64 1 v)) (l.length : Int) (roundL l) ((roundL l).length : Int) (i + 1) else none else none else none) (fun q => ?_) ?_
    · simp only [impl_RoundEdges.l0, hr]
      rw [if_pos hin, if_pos hi0, if_pos hin, if_pos (by simp), if_pos (by simp), w64 (x := i + 1) (by omega) (by omega)]
      rfl
    · exact Ev.bind e1 (Ev.iteT p1 (Ev.bind e2 (Ev.iteT p2 (Ev.bind e3 (Ev.iteT p3 hT)))))
  · rintro s r rfl
    exact Ev.step (f := fun _ => some r) (fun q => by simp only [impl_RoundEdges.l0]; rw [if_neg (by omega)]) (Ev.now _)
end Go.Proofs.Ytijgjpfbhbggdaa.Pure

namespace Go.Proofs.Ytijgjpfbhbggdaa.Pure
open Go.RowKit Go.Proofs.Ytijgjpfbhbggdaa.P Go.Proofs.YtijgjpfbhbggdaaW.PrintWords Go.Proofs.YtijgjpfbhbggdaaW.PrintLast Go.Proofs.Ytijgjpfbhbggdaa.Com
set_option linter.unusedSimpArgs false
set_option linter.unusedVariables false

theorem FnExactRoundEdges : laws_FnExactRoundEdges.Pure := by
  rintro x ⟨hm, _⟩
  apply Ev.rounds
  simp only [laws_FnExactRoundEdges.f, szPointS_eq x hm, Option.bind_some]
  by_cases h : x.length ≤ 1048576
  · rw [if_pos h]
    refine Ev.iteF (by omega) ?_
    have hl : (x.map convPoint).length ≤ 1048576 := by simpa using h
    obtain ⟨r, h1, h2⟩ := (fun l hl => ⟨_, spec_Edges_ev l hl, impl_Edges_ev l hl⟩ : ∀ (l : List S25), l.length ≤ 1099511627776 → ∃ r, Ev (fun k => spec_RoundEdges.f k l) r ∧ Ev (fun k => impl_RoundEdges.f k l) r) (x.map convPoint) (by omega)
    refine Ev.bind (toPointS_eq x h) (Ev.bind h1 (Ev.bind (toPointS_eq x h) (Ev.bind h2 ?_)))
    have rest : Ev (fun k => (laws_toPointS.f k x).bind fun t => (laws_eqPointS.f k (x.map convPoint) t).bind fun b => if b = true then some true else some false) true :=
      Ev.bind (toPointS_eq x h) (Ev.bind (eqPointS_refl _ (by omega)) (Ev.now true))
    first
    | exact Ev.iteF (by simp) rest
    | exact Ev.iteT rfl rest
  · rw [if_neg h]
    exact Ev.iteT (by omega) (Ev.now true)
end Go.Proofs.Ytijgjpfbhbggdaa.Pure

namespace Go.Proofs.Ytijgjpfbhbggdaa.Opn
open Go Go.Deep Go.ChangeShapes Go.WideShapes Go.Proofs.YtijgjpfbhbggdaaW.PrintWords

section
variable {H : Type} (enc : TypeId × Value → H) (P : Program) (w : World) (base : Nat) (spare : Nat → Bool) (held : Bool)
/-- Whatever is read at type t is told by the kind d, and Q holds of it. -/
def Opens {α : Type} (d : Kd α) (t : TypeId) (Q : α → Prop) : Prop :=
  ∀ (fuel : Nat) (cs : List Value) (x : DataW H × List MemPlace), DataW.trod enc P w base spare held fuel t cs = some x → ∃ a, d.K w a cs ∧ Q a
end
section
variable {H : Type} {enc : TypeId × Value → H} {P : Program} {w : World} {base : Nat} {spare : Nat → Bool} {held : Bool}
theorem opens_int {t : TypeId} {k : IntKind} (ht : P.underlying t = some (.int k)) : Opens enc P w base spare held (Kd.int k) t (fun n => (Lit.int k n).wf = true) := fun fuel cs x h => by
  obtain ⟨n, rfl, _, hw⟩ := DataW.trod_int ht h
  exact ⟨n, rfl, hw⟩
theorem opens_bool {t : TypeId} (ht : P.underlying t = some .bool) : Opens enc P w base spare held Kd.bool t (fun _ => True) := fun fuel cs x h => by
  obtain ⟨n, rfl, _⟩ := DataW.trod_bool ht h
  exact ⟨n, rfl, trivial⟩
theorem opens_string {t : TypeId} (ht : P.underlying t = some .string) : Opens enc P w base spare held Kd.string t (fun s => s.size ≤ maxLen) := fun fuel cs x h => by
  obtain ⟨n, rfl, _, hs⟩ := DataW.trod_string ht h
  exact ⟨n, rfl, hs⟩
theorem opens_iso {α β : Type} {d : Kd α} {t : TypeId} {Q : α → Prop} (h : Opens enc P w base spare held d t Q) (f : β → α) (g : α → β) (hfg : ∀ a, f (g a) = a) : Opens enc P w base spare held (Kd.iso d f) t (fun b => Q (f b)) := fun fuel cs x hx => by
  obtain ⟨a, hK, hQ⟩ := h fuel cs x hx
  exact ⟨g a, by show d.K w (f (g a)) cs; rw [hfg]; exact hK, by show Q (f (g a)); rw [hfg]; exact hQ⟩
/-- A list of fields, one behind the other, from the cell o on. -/
def OpensFs (enc : TypeId × Value → H) (P : Program) (w : World) (base : Nat) (spare : Nat → Bool) (held : Bool) {α : Type} (d : Kd α) (o : Nat) (fs : List Field) (Q : α → Prop) : Prop :=
  ∀ (n : Nat) (cs : List Value), cs.length = o + d.sz → (∀ f ∈ fs, ∃ x, DataW.trod enc P w base spare held n f.type ((cs.drop f.offset).take (P.cellsOf f.type)) = some x) → ∃ a, d.K w a (cs.drop o) ∧ Q a
theorem opensFs_one {α : Type} {d : Kd α} {o : Nat} {f : Field} {Q : α → Prop} (h : Opens enc P w base spare held d f.type Q) (ho : f.offset = o) (hc : P.cellsOf f.type = d.sz) : OpensFs enc P w base spare held d o [f] Q := by
  intro n cs hl hf
  obtain ⟨x, hx⟩ := hf f (by simp)
  obtain ⟨a, hK, hQ⟩ := h n _ x hx
  refine ⟨a, ?_, hQ⟩
  rwa [ho, hc, List.take_of_length_le (by rw [List.length_drop]; omega)] at hK
theorem opensFs_cons {α β : Type} {d : Kd α} {e : Kd β} {o : Nat} {f : Field} {fs : List Field} {Q : α → Prop} {R : β → Prop} (h : Opens enc P w base spare held d f.type Q) (hs : OpensFs enc P w base spare held e (o + d.sz) fs R) (ho : f.offset = o) (hc : P.cellsOf f.type = d.sz) :
    OpensFs enc P w base spare held (Kd.pair d e) o (f :: fs) (fun x => Q x.1 ∧ R x.2) := by
  intro n cs hl hf
  have hz : (Kd.pair d e).sz = d.sz + e.sz := rfl
  rw [hz] at hl
  obtain ⟨x, hx⟩ := hf f (by simp)
  obtain ⟨a, hK, hQ⟩ := h n _ x hx
  obtain ⟨b, hK', hR⟩ := hs n cs (by omega) (fun g hg => hf g (by simp [hg]))
  rw [ho, hc] at hK
  refine ⟨(a, b), ⟨(cs.drop o).take d.sz, cs.drop (o + d.sz), ?_, hK, hK'⟩, hQ, hR⟩
  rw [← List.drop_drop, List.take_append_drop]
theorem opens_struct {α : Type} {d : Kd α} {t : TypeId} {fs : Array Field} {Q : α → Prop} (ht : P.underlying t = some (.struct fs)) (hc : P.cellsOf t = d.sz) (h : OpensFs enc P w base spare held d 0 fs.toList Q) : Opens enc P w base spare held d t Q := fun fuel cs x hx => by
  obtain ⟨xs, n, rfl, rfl, hl, hlen, hf⟩ := DataW.trod_struct ht hx
  obtain ⟨a, hK, hQ⟩ := h n cs (by omega) (fun f hm => by
    obtain ⟨i, hi, rfl⟩ := List.mem_iff_getElem.1 hm
    have hi' : i < fs.size := by simpa using hi
    have := hf i fs[i] (by simp [hi'])
    rw [List.getElem?_eq_getElem (by omega)] at this
    exact ⟨_, by simpa using this⟩)
  exact ⟨a, by simpa using hK, hQ⟩
theorem opens_slice {α : Type} {d : Kd α} {t e : TypeId} {Q : α → Prop} (ht : P.underlying t = some (.slice e)) (hc : P.cellsOf e = d.sz) (h : Opens enc P w base spare held d e Q) :
    Opens enc P w base spare held (Kd.slice e d) t (fun xs => xs.length ≤ maxLen ∧ ∀ x ∈ xs, Q x) := fun fuel cs x hx => by
  rcases open_slice ht hx with ⟨rfl, _⟩ | ⟨a, len, cap, m, n, D, Pl, rfl, _, hl, hm, hmm, _, hel⟩
  · exact ⟨[], ⟨none, 0, rfl, Nat.le_refl _, ⟨rfl, by simp, fun h => by simp at h⟩⟩, by simp⟩
  have hlm : len ≤ m := by rw [hmm]; split <;> omega
  have hi : ∀ i : Fin len, ∃ y : α, (∃ cs', w.cells? base (a.add (i.val * P.cellsOf e)) (P.cellsOf e) = some cs' ∧ d.K w y cs') ∧ Q y := fun i => by
    obtain ⟨cs', h1, h2⟩ := hel i.val (by omega)
    obtain ⟨y, hK, hQ⟩ := h _ _ _ h2
    exact ⟨y, ⟨cs', h1, hK⟩, hQ⟩
  let f : Fin len → α := fun i => Classical.choose (hi i)
  have hfs : ∀ i : Fin len, (∃ cs', w.cells? base (a.add (i.val * P.cellsOf e)) (P.cellsOf e) = some cs' ∧ d.K w (f i) cs') ∧ Q (f i) := fun i => Classical.choose_spec (hi i)
  have hlen : (List.ofFn f).length = len := by simp
  have hmax : cap ≤ 9223372036854775807 := by unfold maxLen at hm; omega
  refine ⟨List.ofFn f, ⟨some a, cap, by rw [hlen], by omega, ⟨rfl, by omega, fun _ => ⟨a, rfl, fun j p hj => ?_⟩⟩⟩, by omega, fun y hy => ?_⟩
  · obtain ⟨hj', rfl⟩ := List.getElem?_eq_some_iff.1 hj
    obtain ⟨⟨cs', h1, hK⟩, _⟩ := hfs ⟨j, by omega⟩
    obtain ⟨_, hcl, hcell⟩ := World.cells?_some h1
    refine ⟨cs', by omega, by simpa using hK, fun i u hu => ?_⟩
    have hiu : i < P.cellsOf e := by
      have := (List.getElem?_eq_some_iff.1 hu).1
      omega
    have := hcell i hiu
    rw [Go.Deep.add_add, hu, hc] at this
    exact this
  · obtain ⟨i, rfl⟩ := (List.mem_ofFn).1 hy
    exact (hfs i).2
end
end Go.Proofs.Ytijgjpfbhbggdaa.Opn

namespace Go.Proofs.Ytijgjpfbhbggdaa.fnExactRoundEdges
open Go.ChangeShapes Go.WideShapes Go.ChangeAt Go.RowKit Go.Proofs.Ytijgjpfbhbggdaa.P Go.Proofs.Ytijgjpfbhbggdaa.Opn Go.Proofs.YtijgjpfbhbggdaaW.PrintWords
open Go.ChangeMaps (open_string shut_string)
set_option linter.unusedVariables false
set_option linter.unusedSimpArgs false
theorem own : ownKnob Try.prog.godebug = none := by kernel_rfl
theorem laidOut : laidOutB Try.prog = true := by kernel_rfl
set_option maxRecDepth 100000 in
theorem lifted (os : Os) (started : os.Started) (H : Type) (enc : TypeId × Value → H) :
  ReturnsInHanded {} Try.checked os 9 .any (Rows.fnExactRoundEdgesSpec.pre6 enc Try.prog Try.f9 Rows.fnExactRoundEdgesRow.domain false) (Rows.fnExactRoundEdgesSpec.post enc Try.prog Try.f9 false true false false) := by
 refine returnsInHanded_of_change_sized (C := Try.checked) own started (by kernel_rfl) Try.func9
  (ChangeSpec.witness6 (enc := enc) (C := Try.checked) false ⟨#[], #[.slice none 0 0], []⟩ 8 (by kernel_rfl) (by kernel_rfl) (by kernel_rfl) (by kernel_rfl)) ?_
 intro W base args ds gs before hval0 hW hcnd hsz0 _
 have hval : ∀ (j : Nat) t v, Try.f9.params[j]? = some t → args[j]? = some v → Value.okWide Try.prog W .any base t v := hval0
 have hW' := hW
 obtain ⟨p, q, hA0, hV, rfl, hfz, hnd⟩ := hW
 have hA : DataW.TrodAll enc Try.prog W 0 (fun _ => true) true Try.f9.params.toList args.toList ds p := hA0
 rw [Try.params9] at hA hval
 obtain ⟨v0, vs0, d0, ds0, p0, q0, hargs, rfl, rfl, h0, r0⟩ := trodAll_cons hA
 obtain ⟨rfl, rfl, rfl⟩ := trodAll_nil r0
 obtain rfl : args = #[v0] := by cases args; simp_all
 obtain ⟨rfl, rfl⟩ := trodVars_none hV
 have k0 := h0
 have lt0 : ∀ x ∈ p0, x.block < W.heap.size := by obtain ⟨m, hm⟩ := k0; exact DataW.trod_lt m _ _ _ hm
 obtain ⟨a0, len0, cap0, rfl⟩ := okWide_slice Try.underlying22 (hval 0 22 v0 rfl rfl)
 obtain ⟨x0, ⟨A0, c0, e0, hc0, hC0⟩, y0⟩ : ∃ xs : List (S56), (Kd.slice 56 k56).K W xs [.slice a0 len0 cap0] ∧ (xs.length ≤ maxLen ∧ ∀ y0 ∈ xs, ((Lit.int .i64 y0.f0).wf = true ∧ (Lit.int .i64 y0.f1).wf = true)) := by obtain ⟨m, hm⟩ := h0; exact (opens_slice Try.underlying22 (by kernel_rfl) (opens_iso (opens_struct Try.underlying56 (by kernel_rfl) (opensFs_cons (opens_int Try.underlying3) (opensFs_one (opens_int Try.underlying3) rfl (by kernel_rfl)) rfl (by kernel_rfl))) (fun x : S56 => (x.f0, x.f1)) (fun a => (⟨a.1, a.2⟩ : S56)) (fun _ => rfl))) m _ _ hm
 simp only [List.cons.injEq, Value.slice.injEq, and_true] at e0
 obtain ⟨rfl, rfl, rfl⟩ := e0
 clear hA0 hval0 hsz0
 obtain ⟨k, hP⟩ := Pure.FnExactRoundEdges x0 y0
 refine (laws_FnExactRoundEdges.calls k _ _ x0 true W hC0 hc0 hP).mono ?_
 rintro e W' ⟨he, bel0⟩
 have bel : Below W.heap.size W W' := bel0
 subst he
 exact ⟨_, rfl, _, _, _, [], _, [], hW', trodAll_mk1 (shut_bool Try.underlying4 _), (trodAll_cons_mk (Below.trod laidOut (by kernel_rfl) (of_decide_eq_true (by kernel_rfl)) k0 bel lt0) trodAll_mk0), rfl, bel.frame _, fun h => by cases h⟩
theorem over : Rows.fnExactRoundEdgesRow.holds Try.pinned (OpenSpec.ofChange Rows.fnExactRoundEdgesSpec) :=
 OpenClaim.holds_of_wide 9 Try.f9 rfl rfl rfl rfl rfl rfl rfl ⟨rfl, rfl, rfl, rfl, rfl⟩ rfl rfl rfl rfl rfl (by kernel_rfl) Try.func9 (by kernel_rfl)
  (of_decide_eq_true (by kernel_rfl)) (by unfold Func.isWrapper; first | (rw [if_pos (by decide +kernel)]; kernel_rfl) | (rw [if_neg (by decide +kernel)]; exact ⟨rfl, rfl⟩))
  (fun os started H enc _ => lifted os started H enc)
theorem proved : Rows.FnExactRoundEdgesSaid := over
#print axioms proved
end Go.Proofs.Ytijgjpfbhbggdaa.fnExactRoundEdges
namespace Go.Proofs.Ytijgjpfbhbggdaa
/-- The row, under a short name, for the claim. -/
theorem fnExactRoundEdges_holds : Rows.FnExactRoundEdgesSaid := fnExactRoundEdges.proved
end Go.Proofs.Ytijgjpfbhbggdaa

