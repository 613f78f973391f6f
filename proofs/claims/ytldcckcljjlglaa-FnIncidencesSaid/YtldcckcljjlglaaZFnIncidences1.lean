/- A part of the proof of FnIncidences: printed contracts and plain laws, joined by a program of this session. -/
import Derived.Test.YtldcckcljjlglaaZFnIncidences0
import Derived.Test.YtldcckcljjlglaaProg
import Derived.Below
import Derived.Deep.Draws
import Derived.Deep.AppendLies
import Derived.Maps.AppendAt
import Derived.OwnWalk
import Derived.Laws.BytesArg
import Derived.Laws.MakeOwn
import Derived.Laws.OwnMore
import Derived.Deep.OwnRows
import Derived.Tactics
import Derived.Lib.ConvBytes
import Derived.Laws.Slices
import Derived.WalkKit
import Derived.KernelRfl
import Derived.RowKit3
import Derived.Deep.LoopGhost
import Derived.Deep.QuietTactic
import Derived.BigQuiet
import Derived.WideLaws
import Derived.Deep.DeepCutAuto
import Derived.Deep.CutBlock
import Derived.Deep.RegionHeld3
import Derived.Laws.Rows
import Derived.Lib.AppendStr
import Derived.ArgAppend
import Derived.Laws.IdiomCopy
import Derived.OrdersHeld
import Derived.Laws.BitsLemmas
import Derived.RowKit
import Derived.Shelf.Abstract
namespace Go.Proofs.Ytldcckcljjlglaa.P
open Go.RowKit Go.Proofs.YtldcckcljjlglaaW.PrintWords Go.Proofs.YtldcckcljjlglaaW.PrintLast Go.Proofs.YtldcckcljjlglaaW.PrintMore
theorem aD {p:Prop} (h:p):Aside0 p:=⟨h⟩
theorem iS {α β:Type} {o:Option α} {f:α→Option β} {b:β} (h:o.bind f=some b):∃ a,o=some a∧f a=some b:=Option.bind_eq_some_iff.mp h
theorem fK:type_of% @Kd.R_alloc:=@Kd.R_alloc
theorem gF:type_of% @Kd.R_drewN:=@Kd.R_drewN
theorem eQ:type_of% @Kd.R_drew:=@Kd.R_drew
theorem qH:type_of% @fH:=@fH
theorem BS:type_of% @iD:=@iD
theorem lC:type_of% @sM:=@sM
attribute [local go_sem] max2_int min2_int max_two min_two max_three min_three max_four min_four
set_option linter.unusedVariables false
set_option linter.unusedSimpArgs false
def DZ:Option Int→Value
 | none=>.nilIface
 | some c=>.iface 0 (.int .i64 c)
theorem mG:DZ none=.nilIface:=rfl
theorem mI (c:Int):DZ (some c)=.iface 0 (.int .i64 c):=rfl
theorem rW:(Try.prog.info? 72).map (fun i=>(i.zero,i.size,i.bytes))=some (some (.agg #[(.int .i64 0),(.int .i64 0),(.int .i64 0)]),3,24):=by kernel_rfl
theorem qA:(Try.prog.info? 80).map (fun i=>(i.zero,i.size,i.bytes))=some (some (.agg #[(.int .i64 0),(.int .i64 0)]),2,16):=by kernel_rfl
theorem CA:(Try.prog.info? 123).map (fun i=>(i.zero,i.size,i.bytes))=some (some (.agg #[(.int .i64 0),(.int .i64 0)]),2,16):=by kernel_rfl

/-! #### struct type 85 -/
structure FB where
 f0:Int
 f1:Int
 f2:Int
/-! #### struct type 40 -/
structure FC where
 f0:Int
 f1:Int
 f2:Int
/-! #### struct type 114 -/
structure EZ where
 f0:Int
 f1:Int
/-! #### struct type 80 -/
structure dB where
 f0:Int
 f1:Int
def CB:dB:=⟨(0:Int),(0:Int)⟩
def gA:Kd dB:=Kd.iso (Kd.pair (Kd.int .i64) (Kd.int .i64)) (fun x:dB=>(x.f0,x.f1))
theorem AW {w:World} {x:dB} {cs:List Value} (h:gA.K w x cs):cs=[.int .i64 x.f0,.int .i64 x.f1]:=by
 obtain ⟨_,_,rfl,rfl,rfl⟩:=h
 exact rfl
theorem pF {w:World} {base:Nat} {ok:Nat→Prop} {x:dB} {cs:List Value} (h:gA.M w base ok x cs):cs=[.int .i64 x.f0,.int .i64 x.f1]:=by
 obtain ⟨_,_,rfl,rfl,rfl⟩:=h
 exact rfl
theorem gE (w:World) (base:Nat) (ok:Nat→Prop) (x:dB)  : gA.M w base ok x [.int .i64 x.f0,.int .i64 x.f1]:=⟨[.int .i64 x.f0],[.int .i64 x.f1],rfl,rfl,rfl⟩
def aA (xs:List dB) (i:Int):dB:=xs.getD i.toNat CB
theorem cC {w:World} {A:Option Addr} {n:Nat} {xs:List dB} (h:Kd.C gA w A n xs) (i:Int) (h0:0≤i) (h1:i<n):∃ ad ,A=some ad∧w.cell? (ad.add (i.toNat*2))=some (.int .i64 (aA xs i).f0)∧w.cell? ⟨(ad.add (i.toNat*2)).block,(ad.add (i.toNat*2)).off+1,none⟩=some (.int .i64 (aA xs i).f1):=by
 obtain ⟨ad,c,e,_,hK,hc0⟩:=Kd.C_get h CB i h0 h1
 have hc:∀ j u,c[j]? = some u→w.cell? (ad.add (i.toNat*2+j))=some u:=hc0
 obtain rfl:=AW hK
 exact ⟨ad,e,hc 0 _ rfl,by rw [← oH _ _ 1 (by omega)];exact hc 1 _ rfl⟩
/-! #### struct type 72 -/
structure eV where
 f0:Int
 f1:Int
 f2:Int
def DH:eV:=⟨(0:Int),(0:Int),(0:Int)⟩
def gG:Kd eV:=Kd.iso (Kd.pair (Kd.int .i64) (Kd.pair (Kd.int .i64) (Kd.int .i64))) (fun x:eV=>(x.f0,x.f1,x.f2))
theorem AX {w:World} {x:eV} {cs:List Value} (h:gG.K w x cs):cs=[.int .i64 x.f0,.int .i64 x.f1,.int .i64 x.f2]:=by
 obtain ⟨_,_,rfl,rfl,⟨_,_,rfl,rfl,rfl⟩⟩:=h
 exact rfl
theorem fM (w:World) (base:Nat) (ok:Nat→Prop) (x:eV)  : gG.M w base ok x [.int .i64 x.f0,.int .i64 x.f1,.int .i64 x.f2]:=⟨[.int .i64 x.f0],[.int .i64 x.f1,.int .i64 x.f2],rfl,rfl,⟨[.int .i64 x.f1],[.int .i64 x.f2],rfl,rfl,rfl⟩⟩
def aI (xs:List eV) (i:Int):eV:=xs.getD i.toNat DH
theorem dJ {w:World} {A:Option Addr} {n:Nat} {xs:List eV} (h:Kd.C gG w A n xs) (i:Int) (h0:0≤i) (h1:i<n):∃ ad ,A=some ad∧w.cell? (ad.add (i.toNat*3))=some (.int .i64 (aI xs i).f0)∧w.cell? ⟨(ad.add (i.toNat*3)).block,(ad.add (i.toNat*3)).off+1,none⟩=some (.int .i64 (aI xs i).f1)∧w.cell? ⟨(ad.add (i.toNat*3)).block,(ad.add (i.toNat*3)).off+2,none⟩=some (.int .i64 (aI xs i).f2):=by
 obtain ⟨ad,c,e,_,hK,hc0⟩:=Kd.C_get h DH i h0 h1
 have hc:∀ j u,c[j]? = some u→w.cell? (ad.add (i.toNat*3+j))=some u:=hc0
 obtain rfl:=AX hK
 exact ⟨ad,e,hc 0 _ rfl,by rw [← oH _ _ 1 (by omega)];exact hc 1 _ rfl,by rw [← oH _ _ 2 (by omega)];exact hc 2 _ rfl⟩
/-! #### struct type 123 -/
structure kI where
 f0:Int
 f1:Int
def EA:kI:=⟨(0:Int),(0:Int)⟩
def wZ:Kd kI:=Kd.iso (Kd.pair (Kd.int .i64) (Kd.int .i64)) (fun x:kI=>(x.f0,x.f1))
theorem zM {w:World} {x:kI} {cs:List Value} (h:wZ.K w x cs):cs=[.int .i64 x.f0,.int .i64 x.f1]:=by
 obtain ⟨_,_,rfl,rfl,rfl⟩:=h
 exact rfl
theorem AY (w:World) (base:Nat) (ok:Nat→Prop) (x:kI)  : wZ.M w base ok x [.int .i64 x.f0,.int .i64 x.f1]:=⟨[.int .i64 x.f0],[.int .i64 x.f1],rfl,rfl,rfl⟩
def iX (xs:List kI) (i:Int):kI:=xs.getD i.toNat EA
theorem CC {w:World} {A:Option Addr} {n:Nat} {xs:List kI} (h:Kd.C wZ w A n xs) (i:Int) (h0:0≤i) (h1:i<n):∃ ad ,A=some ad∧w.cell? (ad.add (i.toNat*2))=some (.int .i64 (iX xs i).f0)∧w.cell? ⟨(ad.add (i.toNat*2)).block,(ad.add (i.toNat*2)).off+1,none⟩=some (.int .i64 (iX xs i).f1):=by
 obtain ⟨ad,c,e,_,hK,hc0⟩:=Kd.C_get h EA i h0 h1
 have hc:∀ j u,c[j]? = some u→w.cell? (ad.add (i.toNat*2+j))=some u:=hc0
 obtain rfl:=zM hK
 exact ⟨ad,e,hc 0 _ rfl,by rw [← oH _ _ 1 (by omega)];exact hc 1 _ rfl⟩
/-! #### a region's steps by a plan -/
def bm (n b:Nat):Array Bool:=((List.range n).map (fun i=>b.testBit i)).toArray
section plan
variable {P : Program} {md : Region.Mode} {ops : Array Oper} {Q : Exit → Act → World → Prop} {S : World → Prop} {ds : List Nat} {n : Nat}
def kJ (_pl:List (Nat×Nat×Nat×Nat)) (P:Program) (md:Region.Mode) (ops:Array Oper) (Q:Exit→Act→World→Prop) (S:World→Prop) (ds:List Nat) (fuel:Nat) (l:Array Bool) (a:Act) (w:World):Prop:=wpAnyLast P md ops Q S ds fuel l a w
theorem dG (pl:List (Nat×Nat×Nat×Nat)) {fuel:Nat} {l:Array Bool} {a:Act} {w:World} (h:kJ pl P md ops Q S ds fuel l a w):wpAnyLast P md ops Q S ds fuel l a w:=h
theorem bL {fuel:Nat} {l:Array Bool} {a:Act} {w:World} (h:wpAnyLast P md ops Q S ds fuel l a w):kJ [] P md ops Q S ds fuel l a w:=h
theorem DC {i N b b':Nat} {pl:List (Nat×Nat×Nat×Nat)} {oi:Oper} {fuel:Nat} {a:Act} {w:World} (v:Value) (a':Act) (hi:ops[i]? = some oi) (hN:oi.dst=some N) (hc:zG md ops (bm n b) (bm n b') i=true)
  (hQ:∀ c a w,Q (.panic c) (a.put oi.dst v) w→Q (.panic c) a w) (hy:Yields P ops oi v a) (ha:a.put (some N) v=a')
  (h:kJ pl P md ops Q S ds fuel (bm n b') a' w):kJ ((0,i,N,b')::pl) P md ops Q S ds (fuel+1) (bm n b) a w:=jY _ hi hN hc hQ hy ha h
theorem xY {i N b b':Nat} {pl:List (Nat×Nat×Nat×Nat)} {oi:Oper} {fuel:Nat} {a:Act} {w:World} (v:Value) (a':Act) (hi:ops[i]? = some oi) (hN:oi.dst=some N) (hc:zG md ops (bm n b) (bm n b') i=true)
  (hQ:∀ c a w,Q (.panic c) (a.put oi.dst v) w→Q (.panic c) a w) (hy:Yields P ops oi v a) (ha:a.put (some N) v=a')
  (h:kJ pl P md ops Q S ds fuel (bm n b') a' w):kJ ((1,i,N,b')::pl) P md ops Q S ds (fuel+1) (bm n b) a w:=jY _ hi hN hc hQ hy ha h
theorem DD {i N b b':Nat} {pl:List (Nat×Nat×Nat×Nat)} {oi:Oper} {fuel:Nat} {a:Act} {w:World} (v:Value) (a':Act) (hi:ops[i]? = some oi) (hN:oi.dst=some N) (hc:vK md ops ds (bm n b) (bm n b') i=true)
  (hQ:∀ c a w,Q (.panic c) (a.put oi.dst v) w→Q (.panic c) a w) (hy:YieldsIf P ops S oi v a) (hS:S w) (ha:a.put (some N) v=a')
  (h:kJ pl P md ops Q S ds fuel (bm n b') a' w):kJ ((2,i,N,b')::pl) P md ops Q S ds (fuel+1) (bm n b) a w:=pW _ hi hN hc hQ hy hS ha h
end plan
/-! #### short words: what every walk says again and again;a side that is not written is proved by the tactics that stand with it -/
theorem eO {p:Prop} (h:p:=by first|rfl|(simp;done)|(simp [*];done)):p:=h
theorem dA {p:Prop} (h:p:=by first|rfl|(simp [mG,mI] <;> rfl)|(simp [*,mG,mI] <;> rfl)):p:=h
theorem dX {p:Prop} [Decidable p] (h:decide p=true:=by first|(with_reducible assumption)|assumption):p:=of_decide_eq_true h
theorem EN {A B:Prop} (H:Aside0 A) (k:A→B:=by intro h_;first|omega|exact Nat.le_refl _):B:=k H.out
theorem bM {A B:Prop} (H:Aside0 A) (k:A→B:=by intro h_;repeat (first|(with_reducible first|exact h_|apply qH|apply BS|apply lC|refine iH ?_ (Aside0.out (by assumption)))|exact h_)):B:=k H.out
theorem cM {A B C:Prop} (H:Aside0 A) (hs:C) (k:A→C→B:=by intro h_ s_;repeat (first|(with_reducible first|exact h_|apply qH|apply BS|apply lC|refine iH ?_ (Aside0.out (by assumption))|refine iH ?_ s_)|exact h_)):B:=k H.out hs
theorem cF {A B:Prop} (H:Aside0 A) (k:A→B:=by intro h_;(with_reducible repeat (first|refine aQ ?_ _|refine aK ?_|refine aN ?_ _));exact h_):B:=k H.out
theorem bN {A B:Prop} (H:Aside0 A) (k:A→B:=by intro h_;(with_reducible repeat (first|apply fK|apply gF|apply eQ));exact h_):B:=k H.out
theorem oK {A B:Prop} (H:Aside0 A) (k:A→B:=by intro h_;repeat (first|(with_reducible first|exact h_|apply bQ|apply cD|apply cK|apply cE)|exact h_)):B:=k H.out
theorem aU {w0 w1 w2:World} {g:Nat} {o:Obj} (H:Aside0 (w0.heap[g]? = some o)) (hb:Below w1.heap.size w1 w2) (k:w0.heap[g]? = some o→w1.heap[g]? = some o:=by intro h_;(with_reducible repeat (first|refine aQ ?_ _|refine aK ?_|refine aN ?_ _));exact h_):w2.heap[g]? = some o:=bG (k H.out) hb
theorem cZ {w w0 W:World} {g:Nat} (H:Aside0 (Below w.heap.size w w0)) (hg:g=W.heap.size) (k:Below w.heap.size w w0→Below w.heap.size w W:=by intro h_;repeat (first|(with_reducible first|exact h_|apply qH|apply BS|apply lC|refine iH ?_ (Aside0.out (by assumption)))|exact h_)):w.heap.size≤g:=by rw [hg];exact aM (k H.out)
theorem bW {w0 W:World} {g g':Nat} {o:Obj} (H:Aside0 (w0.heap[g]? = some o)) (hg:g'=W.heap.size) (k:w0.heap[g]? = some o→W.heap[g]? = some o:=by intro h_;(with_reducible repeat (first|refine aQ ?_ _|refine aK ?_|refine aN ?_ _));exact h_):g≠g':=by rw [hg];exact Nat.ne_of_lt (gT (k H.out))
theorem bX {w0 W:World} {g g':Nat} {o:Obj} (H:Aside0 (w0.heap[g]? = some o)) (hg:g'=W.heap.size) (k:w0.heap[g]? = some o→W.heap[g]? = some o:=by intro h_;(with_reducible repeat (first|refine aQ ?_ _|refine aK ?_|refine aN ?_ _));exact h_):g'≠g:=by rw [hg];exact Nat.ne_of_gt (gT (k H.out))
theorem aT {w:World} {g:Nat} {cs:Array Value} {t:TypeId} {v:Value} (H:Aside0 (w.heap[g]? = some (.cells cs t (0,0)))) (i:Nat) (e:cs[i]? = some v:=by rfl):w.cell? ⟨g,i,none⟩=some v:=(bJ H.out i).trans e
section words
variable {P : Program} {ops : Array Oper} {rest : List Oper} {o : Oper} {a : Act} {Q : Exit → Act → World → Prop}
theorem bS {W:World} {N:Tmp} (cs:Array Value) (t:TypeId)
  (h:∀ g,g=W.heap.size→∀ w1,w1.heap[g]? = some (.cells cs t (0,0))→Below W.heap.size W w1→wpList P ops Q rest (a.put o.dst (.pointer (some ⟨g,0,none⟩))) w1)
  (hg:o.guard=none:=by rfl) (hd:o.dst=some N:=by rfl)
  (hr:(execOp a.eval o).run P W=.ok (.value (.pointer (some ⟨W.heap.size,0,none⟩))) (W.alloc (.cells cs t (0,0))):=by first|(go_simp;done)|(go_simp;rfl)):wpList P ops Q (o::rest) a W:=zF hg hd hr h
theorem bK {w:World} (N:Option Tmp) {f:FuncId} {fn:Func} {as_:Array Operand} {ts:Array TypeId} (hf:P.funcs[f]? = some fn) (args:Array Value)
  (h:Calls P f args w fun e w'=>∃ v,e=.returned v∧wpList P ops Q rest (a.put N v) w')
  (hd:o.dst=N:=by rfl) (hg:o.guard=none:=by rfl) (hname:(fn.name == "runtime.NumGoroutine")=false:=by kernel_rfl) (hb:fn.body.isSome=true:=by rfl)
  (hop:o.op=.call { callee:=.value (.func f),args:=as_,argTypes:=ts }:=by exact rfl)
  (hargs:as_.map a.eval=args:=by (try simp only [List.map_toArray,List.map_cons,List.map_nil]);first|done|rfl|(simp only [List.length_drop,List.length_take];rfl)):wpList P ops Q (o::rest) a w:=CH N hd hg hf hname hb args hop hargs h
end words
section words2
variable {P : Program} {md : Region.Mode} {ops : Array Oper} {Q : Exit → Act → World → Prop} {S : World → Prop} {ds : List Nat} {n : Nat} {T : Bool × List (List Nat × List Nat)}
theorem jT {i N b b':Nat} {pl:List (Nat×Nat×Nat×Nat)} {oi:Oper} {fuel:Nat} {a:Act} {w:World} {v:Value} {a':Act} (HT:Aside0 (gK md ops=T)) (h:kJ pl P md ops Q S ds fuel (bm n b') a' w)
  (hi:ops[i]? = some oi:=by rfl) (hN:oi.dst=some N:=by rfl) (hk:DA T (bm n b).toList (bm n b').toList i=true:=by kernel_rfl) (hQ:∀ c a w,Q (.panic c) (a.put oi.dst v) w→Q (.panic c) a w:=by exact fun _ _ _ h_=>h_)
  (hy:Yields P ops oi v a:=by (refine Or.inl ⟨by rfl,?_⟩);intro w';go_simp;with_reducible rfl) (ha:a.put (some N) v=a':=by simp only [Act.put,List.setIfInBounds_toArray,List.set_cons_zero,List.set_cons_succ,aZ,bB];rfl) :
  kJ ((0,i,N,b')::pl) P md ops Q S ds (fuel+1) (bm n b) a w:=DC v a' hi hN (wB HT.out hk) hQ hy ha h
theorem qB {i N b b':Nat} {pl:List (Nat×Nat×Nat×Nat)} {oi:Oper} {fuel:Nat} {a:Act} {w:World} {v:Value} {a':Act} {B:List Nat} (HT:Aside0 (gK md ops=T)) (HW:Aside0 (eU T.2 B=true)) (hS:S w) (h:kJ pl P md ops Q S ds fuel (bm n b') a' w)
  (hi:ops[i]? = some oi:=by rfl) (hN:oi.dst=some N:=by rfl) (hk:AR T B ds (bm n b).toList (bm n b').toList i=true:=by kernel_rfl) (hQ:∀ c a w,Q (.panic c) (a.put oi.dst v) w→Q (.panic c) a w:=by exact fun _ _ _ h_=>h_)
  (hy:YieldsIf P ops S oi v a:=by (refine Or.inl ⟨by rfl,?_⟩);intro w' h_;(repeat (obtain ⟨h1_,h_⟩:=h_));go_simp;with_reducible rfl) (ha:a.put (some N) v=a':=by simp only [Act.put,List.setIfInBounds_toArray,List.set_cons_zero,List.set_cons_succ,aZ,bB];rfl) :
  kJ ((2,i,N,b')::pl) P md ops Q S ds (fuel+1) (bm n b) a w:=DD v a' hi hN (AS HT.out HW.out hk) hQ hy hS ha h
theorem wH {fuel:Nat} {l:Array Bool} {a a':Act} {w:World} (h:wpAnyLast P md ops Q S ds fuel l a' w) (ha:a=a':=by simp only [Act.put,List.setIfInBounds_toArray,List.set_cons_zero,List.set_cons_succ,aZ,bB];rfl):wpAnyLast P md ops Q S ds fuel l a w:=fP ha h
theorem cW {fuel:Nat} {l:Array Bool} {a0 a':Act} {v:Value} {w:World} (N:Option Tmp) (h:wpAnyLast P md ops Q S ds fuel l a' w) (ha:Act.put a0 N v=a':=by simp only [Act.put,List.setIfInBounds_toArray,List.set_cons_zero,List.set_cons_succ,aZ,bB];rfl):wpAnyLast P md ops Q S ds fuel l (Act.put a0 N v) w:=fP ha h
theorem bP {oi:Oper} {N:Option Tmp} {a:Act} {w:World} {K:Act→World→Prop} {f:FuncId} {fn:Func} {as_:Array Operand} {ts:Array TypeId} (hf:P.funcs[f]? = some fn) (args:Array Value)
  (h:Calls P f args w fun e w'=>∃ v,e=.returned v∧K (a.put N v) w')
  (hname:(fn.name == "runtime.NumGoroutine")=false:=by kernel_rfl) (hb:fn.body.isSome=true:=by rfl) (hw:Region.wanted oi (yielded ops a.tmps)=true:=by rfl) (hN:oi.dst=N:=by rfl)
  (hop:oi.op=.call { callee:=.value (.func f),args:=as_,argTypes:=ts }:=by exact rfl)
  (hargs:as_.map a.eval=args:=by (try simp only [List.map_toArray,List.map_cons,List.map_nil]);first|done|rfl|(simp only [List.length_drop,List.length_take];rfl)):if Region.wanted oi (yielded ops a.tmps)=true then Oper.wp P oi a w K Q else K (a.put N undef) w:=DX hf hname hb args hw hN hop hargs h
end words2
theorem jU {p:Prop} [Decidable p] {α:Type} {x:Option α} {r:α} (h:(if p then x else none)=some r):decide p=true∧x=some r:=by by_cases c:p <;> simp_all
theorem EB {p:Prop} [Decidable p] {α:Type} {x:Option α} {r:α} (h:(if p then none else x)=some r):¬ p∧x=some r:=by by_cases c:p <;> simp_all
theorem iC {p:Prop} [Decidable p] {α:Type} {x:Option α} {r:α} (h:(if p then x else none)=some r):p∧x=some r:=by by_cases c:p <;> simp_all
theorem mJ {p:Prop} [Decidable p] {α:Type} {x y:Option α} {r:α} (h:(if p then x else y)=some r):(decide p=true∧x=some r)∨(decide p=false∧y=some r):=by by_cases c:p <;> simp_all
theorem kK {p:Prop} [Decidable p] {α:Type} {x y:Option α} {r:α} (h:(if p then x else y)=some r):(p∧x=some r)∨(¬ p∧y=some r):=by by_cases c:p <;> simp_all
theorem kT {w w' w2:World} {p:Addr} {v:Value} {n:Nat} (H:Aside0 (Below n w w')) (h:w.cell? p=some v) (hn:n=w.heap.size:=by rfl) (e:w'.cell? p=w2.cell? p:=by rfl):w2.cell? p=some v:=by subst hn;exact e ▸ (H.out.cell (World.block_lt_of_cell? w _ h)).trans h
theorem cP {w w':World} {p:Addr} {v:Value} (hb:Below w.heap.size w w') (h:w.cell? p=some v):w'.cell? p=some v:=(hb.cell (World.block_lt_of_cell? w _ h)).trans h
theorem wC {p q R:Prop} [Decidable p] [Decidable q] (h:p→q→R) (hp:decide p=true:=by first|(with_reducible assumption)|assumption) (hq:decide q=true:=by first|(with_reducible assumption)|assumption):(p=True)∧(q=True)∧R:=⟨eq_true (of_decide_eq_true hp),eq_true (of_decide_eq_true hq),h (of_decide_eq_true hp) (of_decide_eq_true hq)⟩
theorem cU {W:World} {p a:Addr} {u:Value} {v:Option Value} (H:Aside0 (a.block≠p.block)) (h:W.cell? a=v):(W.setCell p u).cell? a=v:=(kS H.out u).trans h
theorem dT {A:Prop} {W:World} {p a:Addr} {u:Value} {v:Option Value} (h0:A) (h:W.cell? a=v) (k:A→a.block≠p.block:=by intro h_;first|exact h_|(rw [cA];exact h_)|(show (Addr.add _ _).block≠_;rw [cA];exact h_)|(dsimp only;exact h_)):(W.setCell p u).cell? a=v:=(kS (k h0) u).trans h
theorem eW {A B:Prop} (H:Aside0 A) (k:A→B:=by intro h_;(repeat (first|(with_reducible exact h_)|(with_reducible refine aQ ?_ _)|(with_reducible refine aK ?_)|(with_reducible refine aN ?_ _)|refine bD ?_ (Aside0.out (by assumption)) _|apply cJ));all_goals rfl):B:=k H.out
theorem uU {α β:Type} {x y:α} {F:α→Option β} {r:β} (hy:y=x) (H:(some x).bind F=some r):F y=some r:=by subst hy;exact H
theorem uV {α:Type} {x y r:α} (hy:y=x) (H:some x=some r):some y=some r:=by subst hy;exact H
theorem nK {A B:Prop} (h:A) (k:A→B:=by intro h_;repeat (first|exact h_|(with_reducible refine Kd.C_alloc ?_ _)|(with_reducible refine Kd.C_drewN ?_ _)|(with_reducible refine Kd.C_drew ?_))):B:=k h
theorem fQ {α β:Type} {o:Option α} {f:α→Option β} {b:β} (h:o.bind f=some b):∃ a,Aside0 (o=some a)∧f a=some b:=by obtain ⟨a,h1,h2⟩:=iS h;exact ⟨a,⟨h1⟩,h2⟩
end Go.Proofs.Ytldcckcljjlglaa.P

namespace Go.Proofs.Ytldcckcljjlglaa.P
open Go.RowKit Go.Proofs.YtldcckcljjlglaaW.PrintWords Go.Proofs.YtldcckcljjlglaaW.PrintLast Go.Proofs.YtldcckcljjlglaaW.PrintMore
attribute [local go_sem] max2_int min2_int max_two min_two max_three min_three max_four min_four
set_option linter.unusedVariables false
set_option linter.unusedSimpArgs false
theorem eqA72 (d:Nat) (w:World) (x0 y0:Int) (x1 y1:Int) (x2 y2:Int) :
  (Op.equalIn (d+2) 72 (.agg #[.int .i64 x0,.int .i64 x1,.int .i64 x2]) (.agg #[.int .i64 y0,.int .i64 y1,.int .i64 y2])).run Try.prog w=.ok (x0==y0&&(x1==y1&&(x2==y2))) w:=by
 refine AV Try.underlying72 (by kernel_rfl) ?_
 refine tW (by rfl) (by go_simp;rfl) (by go_simp;rfl) (by go_simp) ?_
 refine tW (by rfl) (by go_simp;rfl) (by go_simp;rfl) (by go_simp) ?_
 exact wY (by rfl) (by go_simp;rfl) (by go_simp;rfl) (by go_simp)
/-! ### laws_big: function 34 -/
def laws_big.f (l0:List Int):Option (Bool):=some (decide ((l0.length:Int) > 1048576))
set_option maxHeartbeats 8000000 in
set_option maxRecDepth 100000 in
theorem oL (A0:Option Addr) (c0:Nat) (l0:List Int) (r:Bool) (w:World) (hr0:Kd.C (Kd.int .u8) w A0 l0.length l0) (hc0:l0.length≤c0) (h:laws_big.f l0=some r) :
  Calls Try.prog 34 #[.slice A0 l0.length c0] w fun e w'=>e=.returned (.bool r)∧jS w w':=by
 have HR0:=aD hr0
 have HC0:=aD hc0
 clear hr0 hc0
 unfold laws_big.f at h
 have H:=h
 clear h
 obtain rfl:=Option.some.inj H
 go_enter Try.func34,Try.ntmps34
 go_wp2
 go_ret
 exact ⟨eO,by repeat (first|exact jS.refl _|apply eD)⟩
/-! ### spec_l1Max: function 155 -/
def spec_l1Max.f (a0:Int) (a1:Int):Option (Int):=if a0 > a1 then (some a0) else (some a1)
set_option maxHeartbeats 8000000 in
set_option maxRecDepth 100000 in
theorem rX (a0:Int) (a1:Int) (r:Int) (w:World) (h:spec_l1Max.f a0 a1=some r) :
  Calls Try.prog 155 #[.int .i64 a0,.int .i64 a1] w fun e w'=>e=.returned (.int .i64 r)∧jS w w':=by
 unfold spec_l1Max.f at h
 have H:=h
 clear h
 rcases mJ H with ⟨c3b0,H⟩|⟨c3b0,H⟩
 ·obtain rfl:=Option.some.inj H
  go_enter Try.func155,Try.ntmps155
  go_wp2
  go_ret
  exact ⟨eO,by repeat (first|exact jS.refl _|apply eD)⟩
 ·obtain rfl:=Option.some.inj H
  go_enter Try.func155,Try.ntmps155
  go_wp2
  go_ret
  exact ⟨eO,by repeat (first|exact jS.refl _|apply eD)⟩
/-! ### spec_l24Gcd: function 142 -/
def fA:Nat→Int→Int→Option (Int)
 | 0,_,_=>none
 | k+1,x0,x1=>if x1=0 then ((spec_l1Max.f x0 (wrap64 (-x0))).bind fun t101=>(some t101)) else (fA k x1 (Int.tmod x0 x1))
def spec_l24Gcd.f (k:Nat) (a0:Int) (a1:Int):Option (Int):=fA k a0 a1
set_option maxHeartbeats 8000000 in
set_option maxRecDepth 100000 in
theorem iA (k:Nat) (a0:Int) (a1:Int) (r:Int) (w:World) (h:spec_l24Gcd.f k a0 a1=some r) :
  Calls Try.prog 142 #[.int .i64 a0,.int .i64 a1] w fun e w'=>e=.returned (.int .i64 r)∧jS w w':=by
 unfold spec_l24Gcd.f at h
 have H:=h
 clear h
 have H':=aD H
 clear H
 go_enter Try.func142,Try.ntmps142
 go_wp2
 go_loopg [0,1] k (fun kq v0 v1 w'=>∃ (x0_1:Int) (x1_1:Int),v0=.int .i64 x0_1∧v1=.int .i64 x1_1∧Aside0 (fA kq x0_1 x1_1=some r)∧Aside0 (kq≤k)∧jS w w')
 case atStart=>exact ⟨(a0),(a1),eO,eO,H',⟨Nat.le_refl _⟩,by repeat (first|exact jS.refl _|apply eD)⟩
 case round =>
  clear H'
  obtain ⟨x0_1,x1_1,rfl,rfl,HA,HK1,⟨m1,rfl⟩⟩:=hrel
  cases gk with
  | zero=>exact absurd HA.out (by simp [fA])
  | succ k1 =>
   have H:=HA.out
   clear HA
   simp only [fA] at H
   rcases kK H with ⟨c3,H⟩|⟨c3,H⟩
   ·have c3b0:(x1_1==0)=true:=beq_iff_eq.mpr c3
    have c3b1:(x1_1 != 0)=false:=bne_eq_false_iff_eq.mpr c3
    clear c3
    replace H:=fQ H
    obtain ⟨t101,A4,H⟩:=H
    obtain rfl:=Option.some.inj H
    go_wp2_with (first|((with_reducible refine aV (f:=155) rfl ?_);refine bK (some 16) Try.func155 #[.int .i64 x0_1,.int .i64 (wrap64 (-x0_1))] ?_;(with_reducible refine (rX x0_1 (wrap64 (-x0_1)) t101 _ A4.out).mono ?_);rintro e w' ⟨rfl,⟨nd,rfl⟩⟩;refine ⟨_,rfl,?_⟩))
    go_ret
    exact ⟨eO,by repeat (first|exact jS.refl _|apply eD)⟩
   ·have c3b0:(x1_1==0)=false:=beq_eq_false_iff_ne.mpr c3
    have c3b1:(x1_1 != 0)=true:=bne_iff_ne.mpr c3
    have H':=aD H
    clear H
    go_wp2
    go_roundg k1
    case measure=>have:=HK1.out;omega
    case rel=>exact ⟨(x1_1),(Int.tmod x0_1 x1_1),eO,eO,H',⟨by have:=HK1.out;omega⟩,by repeat (first|exact jS.refl _|apply eD)⟩
/-! ### spec_l1In: function 91 -/
def spec_l1In.f (a0:Int) (a1:Int) (a2:Int):Option (Bool):=if a0 ≥ a1 then (some (decide (a0≤a2))) else (some false)
set_option maxHeartbeats 8000000 in
set_option maxRecDepth 100000 in
theorem eZ (a0:Int) (a1:Int) (a2:Int) (r:Bool) (w:World) (h:spec_l1In.f a0 a1 a2=some r) :
  Calls Try.prog 91 #[.int .i64 a0,.int .i64 a1,.int .i64 a2] w fun e w'=>e=.returned (.bool r)∧jS w w':=by
 unfold spec_l1In.f at h
 have H:=h
 clear h
 rcases mJ H with ⟨c4b0,H⟩|⟨c4b0,H⟩
 ·obtain rfl:=Option.some.inj H
  go_enter Try.func91,Try.ntmps91
  go_wp2
  go_ret
  exact ⟨eO,by repeat (first|exact jS.refl _|apply eD)⟩
 ·obtain rfl:=Option.some.inj H
  go_enter Try.func91,Try.ntmps91
  go_wp2
  go_ret
  exact ⟨eO,by repeat (first|exact jS.refl _|apply eD)⟩
/-! ### spec_l26Fits: function 141 -/
def spec_l26Fits.f (a0_0:Int) (a0_1:Int) (a0_2:Int) (a1:Int):Option (Bool):=(spec_l1In.f a0_0 (wrap64 (-a1)) a1).bind fun t102=>(if t102=true then ((spec_l1In.f a0_1 (wrap64 (-a1)) a1).bind fun t103=>(if t103=true then ((spec_l1In.f a0_2 (wrap64 (-a1)) a1).bind fun t104=>(some t104)) else (some false))) else (some false))
set_option maxHeartbeats 8000000 in
set_option maxRecDepth 100000 in
theorem cY (a0_0:Int) (a0_1:Int) (a0_2:Int) (a1:Int) (r:Bool) (w:World) (h:spec_l26Fits.f a0_0 a0_1 a0_2 a1=some r) :
  Calls Try.prog 141 #[.agg #[.int .i64 a0_0,.int .i64 a0_1,.int .i64 a0_2],.int .i64 a1] w fun e w'=>e=.returned (.bool r)∧Below w.heap.size w w':=by
 have hu72:=Try.underlying72
 have HB:=aD (Below.refl w.heap.size w)
 unfold spec_l26Fits.f at h
 have H:=h
 clear h
 replace H:=fQ H
 obtain ⟨t102,A3,H⟩:=H
 by_cases c4:t102=true
 ·subst c4
  rw [if_pos rfl] at H
  replace H:=fQ H
  obtain ⟨t103,A5,H⟩:=H
  by_cases c6:t103=true
  ·subst c6
   rw [if_pos rfl] at H
   replace H:=fQ H
   obtain ⟨t104,A7,H⟩:=H
   obtain rfl:=Option.some.inj H
   go_enter Try.func141,Try.ntmps141
   go_wp2_with (first|((with_reducible refine aW (N:=2) rfl ?_);refine bS (N:=2) #[.int .i64 a0_0,.int .i64 a0_1,.int .i64 a0_2] 72 ?_;intro gb101 hg w8 hbox hb;have BK101:=aD (hbox);have GW101:=aD ((cZ HB hg));have GE101:=aD ((cZ HB hg));replace HB:=aD (aE (bM HB) hb);clear hb hbox hg;have hcz9_0:=aT BK101 0;have hcz9_1:=aT BK101 1;have hcz9_2:=aT BK101 2;have hfz9_0:=aC BK101.out 0;have hfz9_1:=aC BK101.out 1;have hfz9_2:=aC BK101.out 2)|((with_reducible refine aV (f:=91) rfl ?_);refine bK (some 10) Try.func91 #[.int .i64 a0_0,.int .i64 (wrap64 (-a1)),.int .i64 a1] ?_;(with_reducible refine (eZ a0_0 (wrap64 (-a1)) a1 true _ A3.out).mono ?_);rintro e w' ⟨rfl,⟨nd,rfl⟩⟩;refine ⟨_,rfl,?_⟩)|(go_at_call 91;(with_reducible refine (eZ a0_1 (wrap64 (-a1)) a1 true _ A5.out).mono ?_);rintro e w' ⟨rfl,⟨nd,rfl⟩⟩)|(go_at_call 91;(with_reducible refine (eZ a0_2 (wrap64 (-a1)) a1 t104 _ A7.out).mono ?_);rintro e w' ⟨rfl,⟨nd,rfl⟩⟩))
   go_ret
   exact ⟨dA,bM HB⟩
  ·replace c6:=Bool.eq_false_iff.mpr c6
   subst c6
   rw [if_neg (show ¬ (false=true) by decide)] at H
   obtain rfl:=Option.some.inj H
   go_enter Try.func141,Try.ntmps141
   go_wp2_with (first|((with_reducible refine aW (N:=2) rfl ?_);refine bS (N:=2) #[.int .i64 a0_0,.int .i64 a0_1,.int .i64 a0_2] 72 ?_;intro gb101 hg w10 hbox hb;have BK101:=aD (hbox);have GW101:=aD ((cZ HB hg));have GE101:=aD ((cZ HB hg));replace HB:=aD (aE (bM HB) hb);clear hb hbox hg;have hcz11_0:=aT BK101 0;have hcz11_1:=aT BK101 1;have hcz11_2:=aT BK101 2;have hfz11_0:=aC BK101.out 0;have hfz11_1:=aC BK101.out 1;have hfz11_2:=aC BK101.out 2)|((with_reducible refine aV (f:=91) rfl ?_);refine bK (some 10) Try.func91 #[.int .i64 a0_0,.int .i64 (wrap64 (-a1)),.int .i64 a1] ?_;(with_reducible refine (eZ a0_0 (wrap64 (-a1)) a1 true _ A3.out).mono ?_);rintro e w' ⟨rfl,⟨nd,rfl⟩⟩;refine ⟨_,rfl,?_⟩)|(go_at_call 91;(with_reducible refine (eZ a0_1 (wrap64 (-a1)) a1 false _ A5.out).mono ?_);rintro e w' ⟨rfl,⟨nd,rfl⟩⟩))
   go_ret
   exact ⟨dA,bM HB⟩
 ·replace c4:=Bool.eq_false_iff.mpr c4
  subst c4
  rw [if_neg (show ¬ (false=true) by decide)] at H
  obtain rfl:=Option.some.inj H
  go_enter Try.func141,Try.ntmps141
  go_wp2_with (first|((with_reducible refine aW (N:=2) rfl ?_);refine bS (N:=2) #[.int .i64 a0_0,.int .i64 a0_1,.int .i64 a0_2] 72 ?_;intro gb101 hg w12 hbox hb;have BK101:=aD (hbox);have GW101:=aD ((cZ HB hg));have GE101:=aD ((cZ HB hg));replace HB:=aD (aE (bM HB) hb);clear hb hbox hg;have hcz13_0:=aT BK101 0;have hcz13_1:=aT BK101 1;have hcz13_2:=aT BK101 2;have hfz13_0:=aC BK101.out 0;have hfz13_1:=aC BK101.out 1;have hfz13_2:=aC BK101.out 2)|((with_reducible refine aV (f:=91) rfl ?_);refine bK (some 10) Try.func91 #[.int .i64 a0_0,.int .i64 (wrap64 (-a1)),.int .i64 a1] ?_;(with_reducible refine (eZ a0_0 (wrap64 (-a1)) a1 false _ A3.out).mono ?_);rintro e w' ⟨rfl,⟨nd,rfl⟩⟩;refine ⟨_,rfl,?_⟩))
  go_ret
  exact ⟨dA,bM HB⟩
/-! ### spec_CrossOf: function 82 -/
def dU:Nat→Bool→Int→Int→Int→Int→Int→Int→Option (Int×Int×Int)
 | 0,_,_,_,_,_,_,_=>none
 | k+1,x16,x102000,x102001,x102002,x103000,x103001,x103002=>if x16=true then (some (0,0,0)) else ((spec_l24Gcd.f k (wrap64 ((wrap64 (x102001*x103002))-(wrap64 (x102002*x103001)))) (wrap64 ((wrap64 (x102002*x103000))-(wrap64 (x102000*x103002))))).bind fun t106=>((spec_l24Gcd.f k t106 (wrap64 ((wrap64 (x102000*x103001))-(wrap64 (x102001*x103000))))).bind fun t107=>(if t107=0 then (some (0,0,0)) else (some (wrap64 (Int.tdiv (wrap64 ((wrap64 (x102001*x103002))-(wrap64 (x102002*x103001)))) t107),wrap64 (Int.tdiv (wrap64 ((wrap64 (x102002*x103000))-(wrap64 (x102000*x103002)))) t107),wrap64 (Int.tdiv (wrap64 ((wrap64 (x102000*x103001))-(wrap64 (x102001*x103000)))) t107))))))
def spec_CrossOf.f (k:Nat) (a0_0:Int) (a0_1:Int) (a0_2:Int) (a1_0:Int) (a1_1:Int) (a1_2:Int):Option (Int×Int×Int):=(spec_l26Fits.f a0_0 a0_1 a0_2 1000000).bind fun t104=>(if t104=true then ((spec_l26Fits.f a1_0 a1_1 a1_2 1000000).bind fun t105=>(dU k (!t105) a0_0 a0_1 a0_2 a1_0 a1_1 a1_2)) else (dU k true a0_0 a0_1 a0_2 a1_0 a1_1 a1_2))
def nT:Bool×List (List Nat×List Nat):=(true,[([],[]),([],[]),([0,1],[0,1]),([],[]),([],[]),([3,4],[3,4]),([],[]),([],[]),([6,7],[6,7]),([2,5,8],[2,5,8]),([9,0,1,2,3,4,5,6,7,8,9],[9])])
def sV:List Nat:=[0,0,3,0,0,24,0,0,192,511,1023]
theorem rA:gK .any (iQ Try.f82 9)=nT:=by kernel_rfl
theorem qC:eU nT.2 sV=true:=by kernel_rfl
set_option maxHeartbeats 8000000 in
set_option maxRecDepth 100000 in
theorem aH (k:Nat) (a0_0:Int) (a0_1:Int) (a0_2:Int) (a1_0:Int) (a1_1:Int) (a1_2:Int) (r1:Int) (r2:Int) (r3:Int) (w:World) (h:spec_CrossOf.f k a0_0 a0_1 a0_2 a1_0 a1_1 a1_2=some (r1,r2,r3)) :
  Calls Try.prog 82 #[.agg #[.int .i64 a0_0,.int .i64 a0_1,.int .i64 a0_2],.agg #[.int .i64 a1_0,.int .i64 a1_1,.int .i64 a1_2]] w fun e w'=>e=.returned (.agg #[.int .i64 r1,.int .i64 r2,.int .i64 r3])∧Below w.heap.size w w':=by
 have hu72:=Try.underlying72
 have HB:=aD (Below.refl w.heap.size w)
 unfold spec_CrossOf.f at h
 have H:=h
 clear h
 have HC3:=aD H
 clear H
 go_enter Try.func82,Try.ntmps82
 go_upto_region 1 with (first|((with_reducible refine aW (N:=2) rfl ?_);refine bS (N:=2) #[.int .i64 a0_0,.int .i64 a0_1,.int .i64 a0_2] 72 ?_;intro gb101 hg w4 hbox hb;have BK101:=aD (hbox);have GW101:=aD ((cZ HB hg));have GE101:=aD ((cZ HB hg));replace HB:=aD (aE (bM HB) hb);clear hb hbox hg)|((with_reducible refine aW (N:=3) rfl ?_);refine bS (N:=3) #[.int .i64 a1_0,.int .i64 a1_1,.int .i64 a1_2] 72 ?_;intro gb102 hg w5 hbox hb;have BK102:=aD (hbox);have GW102:=aD ((cZ HB hg));have GE102:=aD ((cZ HB hg));replace HB:=aD (aE (bM HB) hb);have NB101_102:=aD ((bW BK101 hg));have NB102_101:=aD ((bX BK101 hg));replace BK101:=aD (aU BK101 hb);clear hb hbox hg)|((with_reducible refine aW (N:=4) rfl ?_);refine bS (N:=4) #[.int .i64 0,.int .i64 0,.int .i64 0] 72 ?_;intro gb103 hg w6 hbox hb;have BK103:=aD (hbox);have GW103:=aD ((cZ HB hg));have GE103:=aD ((cZ HB hg));replace HB:=aD (aE (bM HB) hb);have NB101_103:=aD ((bW BK101 hg));have NB103_101:=aD ((bX BK101 hg));replace BK101:=aD (aU BK101 hb);have NB102_103:=aD ((bW BK102 hg));have NB103_102:=aD ((bX BK102 hg));replace BK102:=aD (aU BK102 hb);clear hb hbox hg))
 (try simp only [Act.put,List.setIfInBounds_toArray,List.set_cons_zero,List.set_cons_succ])
 go_cut [16] (fun v16 wc=>∃ (kq:Nat) (x16_2:Bool),v16=.bool x16_2∧Aside0 (dU kq x16_2 a0_0 a0_1 a0_2 a1_0 a1_1 a1_2=some (r1,r2,r3))∧Aside0 (kq≤k)∧Aside0 (wc.heap[gb101]? = some (.cells #[.int .i64 a0_0,.int .i64 a0_1,.int .i64 a0_2] 72 (0,0)))∧Aside0 (wc.heap[gb102]? = some (.cells #[.int .i64 a1_0,.int .i64 a1_1,.int .i64 a1_2] 72 (0,0)))∧Aside0 (wc.heap[gb103]? = some (.cells #[.int .i64 0,.int .i64 0,.int .i64 0] 72 (0,0)))∧Aside0 (Below w.heap.size w wc))
 case first =>
  have H:=HC3.out
  clear HC3
  replace H:=iS H
  obtain ⟨t104,A70,H⟩:=H
  replace H:(if t104=true then ((spec_l26Fits.f a1_0 a1_1 a1_2 1000000).bind fun t105=>(dU k (!t105) a0_0 a0_1 a0_2 a1_0 a1_1 a1_2)) else (dU k true a0_0 a0_1 a0_2 a1_0 a1_1 a1_2))=some (r1,r2,r3):=H
  have A7:=aD A70
  clear A70
  by_cases c8:t104=true
  ·subst c8
   rw [if_pos rfl] at H
   replace H:=iS H
   obtain ⟨t105,A90,H⟩:=H
   replace H:(dU k (!t105) a0_0 a0_1 a0_2 a1_0 a1_1 a1_2)=some (r1,r2,r3):=H
   have A9:=aD A90
   clear A90
   have H':=aD H
   clear H
   have hnb10:=NB101_102.out
   have hnc10:=NB102_101.out
   have hnb11:=NB101_103.out
   have hnc11:=NB103_101.out
   have hcz12_0:=aT BK101 0
   have hcz12_1:=aT BK101 1
   have hcz12_2:=aT BK101 2
   have hfz12_0:=aC BK101.out 0
   have hfz12_1:=aC BK101.out 1
   have hfz12_2:=aC BK101.out 2
   go_wp2_with (first|((with_reducible refine aV (f:=141) rfl ?_);refine bK (some 10) Try.func141 #[.agg #[.int .i64 a0_0,.int .i64 a0_1,.int .i64 a0_2],.int .i64 1000000] ?_;(with_reducible refine (cY a0_0 a0_1 a0_2 1000000 true _ A7.out).mono ?_);rintro e w13 ⟨rfl,hb⟩;refine ⟨_,rfl,?_⟩;replace BK101:=aD (aU BK101 hb);replace BK102:=aD (aU BK102 hb);replace BK103:=aD (aU BK103 hb);replace HB:=aD (aE (bM HB) hb);(try clear hb);have hnb14:=NB102_103.out;have hnc14:=NB103_102.out;have hcz15_0:=aT BK102 0;have hcz15_1:=aT BK102 1;have hcz15_2:=aT BK102 2;have hfz15_0:=aC BK102.out 0;have hfz15_1:=aC BK102.out 1;have hfz15_2:=aC BK102.out 2)|(go_at_call 141;(with_reducible refine (cY a1_0 a1_1 a1_2 1000000 t105 _ A9.out).mono ?_);rintro e w16 ⟨rfl,hb⟩;replace BK101:=aD (aU BK101 hb);replace BK102:=aD (aU BK102 hb);replace BK103:=aD (aU BK103 hb);replace HB:=aD (aE (bM HB) hb);(try clear hb)))
   go_meet
   case rel=>exact ⟨_,(!t105),eO,H',⟨by first|omega|exact Nat.le_refl _⟩,⟨cF BK101⟩,⟨cF BK102⟩,⟨cF BK103⟩,⟨bM HB⟩⟩
  ·replace c8:=Bool.eq_false_iff.mpr c8
   subst c8
   rw [if_neg (show ¬ (false=true) by decide)] at H
   have H':=aD H
   clear H
   have hnb17:=NB101_102.out
   have hnc17:=NB102_101.out
   have hnb18:=NB101_103.out
   have hnc18:=NB103_101.out
   have hcz19_0:=aT BK101 0
   have hcz19_1:=aT BK101 1
   have hcz19_2:=aT BK101 2
   have hfz19_0:=aC BK101.out 0
   have hfz19_1:=aC BK101.out 1
   have hfz19_2:=aC BK101.out 2
   go_wp2_with (first|((with_reducible refine aV (f:=141) rfl ?_);refine bK (some 10) Try.func141 #[.agg #[.int .i64 a0_0,.int .i64 a0_1,.int .i64 a0_2],.int .i64 1000000] ?_;(with_reducible refine (cY a0_0 a0_1 a0_2 1000000 false _ A7.out).mono ?_);rintro e w20 ⟨rfl,hb⟩;refine ⟨_,rfl,?_⟩;replace BK101:=aD (aU BK101 hb);replace BK102:=aD (aU BK102 hb);replace BK103:=aD (aU BK103 hb);replace HB:=aD (aE (bM HB) hb);(try clear hb)))
   go_meet
   case rel=>exact ⟨_,(true),eO,H',⟨by first|omega|exact Nat.le_refl _⟩,⟨cF BK101⟩,⟨cF BK102⟩,⟨cF BK103⟩,⟨bM HB⟩⟩
 case rest =>
  clear HC3
  try clear c8
  try clear hcz12_0
  try clear hcz12_1
  try clear hcz12_2
  try clear hcz15_0
  try clear hcz15_1
  try clear hcz15_2
  try clear hcz19_0
  try clear hcz19_1
  try clear hcz19_2
  try clear hfz12_0
  try clear hfz12_1
  try clear hfz12_2
  try clear hfz15_0
  try clear hfz15_1
  try clear hfz15_2
  try clear hfz19_0
  try clear hfz19_1
  try clear hfz19_2
  obtain ⟨kq,x16_2,rfl,HA,HJ2,BK101,BK102,BK103,HB⟩:=hcut
  cases kq with
  | zero=>exact absurd HA.out (by simp [dU])
  | succ kj2 =>
   have H:=HA.out
   clear HA
   simp only [dU] at H
   by_cases c21:x16_2=true
   ·subst c21
    rw [if_pos rfl] at H
    simp only [Option.some.injEq,Prod.mk.injEq] at H
    obtain ⟨rfl,rfl,rfl⟩:=H
    have hnb22:=NB103_101.out
    have hnc22:=NB101_103.out
    have hnb23:=NB103_102.out
    have hnc23:=NB102_103.out
    have hcz24_0:=aT BK103 0
    have hcz24_1:=aT BK103 1
    have hcz24_2:=aT BK103 2
    have hfz24_0:=aC BK103.out 0
    have hfz24_1:=aC BK103.out 1
    have hfz24_2:=aC BK103.out 2
    go_wp2
    refine bodyPost_ret (results_cell_row rfl _ _ gb103 72 #[.int .i64 0,.int .i64 0,.int .i64 0] (0,0) _ rfl (eW BK103) Try.underlying72 rfl (by kernel_rfl)) rfl ?_
    exact ⟨dA,bM HB⟩
   ·replace c21:=Bool.eq_false_iff.mpr c21
    subst c21
    rw [if_neg (show ¬ (false=true) by decide)] at H
    replace H:=iS H
    obtain ⟨t106,A250,H⟩:=H
    replace H:((spec_l24Gcd.f kj2 t106 (wrap64 ((wrap64 (a0_0*a1_1))-(wrap64 (a0_1*a1_0))))).bind fun t107=>(if t107=0 then (some (0,0,0)) else (some (wrap64 (Int.tdiv (wrap64 ((wrap64 (a0_1*a1_2))-(wrap64 (a0_2*a1_1)))) t107),wrap64 (Int.tdiv (wrap64 ((wrap64 (a0_2*a1_0))-(wrap64 (a0_0*a1_2)))) t107),wrap64 (Int.tdiv (wrap64 ((wrap64 (a0_0*a1_1))-(wrap64 (a0_1*a1_0)))) t107)))))=some (r1,r2,r3):=H
    have A25:=aD A250
    clear A250
    replace H:=iS H
    obtain ⟨t107,A260,H⟩:=H
    replace H:(if t107=0 then (some (0,0,0)) else (some (wrap64 (Int.tdiv (wrap64 ((wrap64 (a0_1*a1_2))-(wrap64 (a0_2*a1_1)))) t107),wrap64 (Int.tdiv (wrap64 ((wrap64 (a0_2*a1_0))-(wrap64 (a0_0*a1_2)))) t107),wrap64 (Int.tdiv (wrap64 ((wrap64 (a0_0*a1_1))-(wrap64 (a0_1*a1_0)))) t107))))=some (r1,r2,r3):=H
    have A26:=aD A260
    clear A260
    rcases kK H with ⟨c27,H⟩|⟨c27,H⟩
    ·have c27b0:(t107==0)=true:=beq_iff_eq.mpr c27
     have c27b1:(t107 != 0)=false:=bne_eq_false_iff_eq.mpr c27
     clear c27
     simp only [Option.some.injEq,Prod.mk.injEq] at H
     obtain ⟨rfl,rfl,rfl⟩:=H
     have hnb28:=NB101_102.out
     have hnc28:=NB102_101.out
     have hnb29:=NB101_103.out
     have hnc29:=NB103_101.out
     have hcz30_0:=aT BK101 0
     have hcz30_1:=aT BK101 1
     have hcz30_2:=aT BK101 2
     have hfz30_0:=aC BK101.out 0
     have hfz30_1:=aC BK101.out 1
     have hfz30_2:=aC BK101.out 2
     have hnb31:=NB102_103.out
     have hnc31:=NB103_102.out
     have hcz32_0:=aT BK102 0
     have hcz32_1:=aT BK102 1
     have hcz32_2:=aT BK102 2
     have hfz32_0:=aC BK102.out 0
     have hfz32_1:=aC BK102.out 1
     have hfz32_2:=aC BK102.out 2
     go_wp2_with (first|((with_reducible refine aV (f:=142) rfl ?_);refine bK (some 53) Try.func142 #[.int .i64 (wrap64 ((wrap64 (a0_1*a1_2))-(wrap64 (a0_2*a1_1)))),.int .i64 (wrap64 ((wrap64 (a0_2*a1_0))-(wrap64 (a0_0*a1_2))))] ?_;(with_reducible refine (iA kj2 (wrap64 ((wrap64 (a0_1*a1_2))-(wrap64 (a0_2*a1_1)))) (wrap64 ((wrap64 (a0_2*a1_0))-(wrap64 (a0_0*a1_2)))) t106 _ A25.out).mono ?_);rintro e w' ⟨rfl,⟨nd,rfl⟩⟩;refine ⟨_,rfl,?_⟩;(try (rw [nJ wc];generalize hq_:World.drewN wc _=wc;have n0_:Aside0 (wc.heap[gb101]? = some (.cells #[.int .i64 a0_0,.int .i64 a0_1,.int .i64 a0_2] 72 (0,0))):=⟨by rw [← hq_];exact (cF BK101)⟩;have n1_:Aside0 (wc.heap[gb102]? = some (.cells #[.int .i64 a1_0,.int .i64 a1_1,.int .i64 a1_2] 72 (0,0))):=⟨by rw [← hq_];exact (cF BK102)⟩;have n2_:Aside0 (wc.heap[gb103]? = some (.cells #[.int .i64 0,.int .i64 0,.int .i64 0] 72 (0,0))):=⟨by rw [← hq_];exact (cF BK103)⟩;have n3_:Aside0 (Below w.heap.size w wc):=⟨by rw [← hq_];exact (bM HB)⟩;clear BK101 BK102 BK103 HB hq_;have BK101:=n0_;have BK102:=n1_;have BK103:=n2_;have HB:=n3_;clear n0_ n1_ n2_ n3_)))|((with_reducible refine aV (f:=142) rfl ?_);refine bK (some 55) Try.func142 #[.int .i64 t106,.int .i64 (wrap64 ((wrap64 (a0_0*a1_1))-(wrap64 (a0_1*a1_0))))] ?_;(with_reducible refine (iA kj2 t106 (wrap64 ((wrap64 (a0_0*a1_1))-(wrap64 (a0_1*a1_0)))) t107 _ A26.out).mono ?_);rintro e w' ⟨rfl,⟨nd,rfl⟩⟩;refine ⟨_,rfl,?_⟩;(try (rw [nJ wc];generalize hq_:World.drewN wc _=wc;have n0_:Aside0 (wc.heap[gb101]? = some (.cells #[.int .i64 a0_0,.int .i64 a0_1,.int .i64 a0_2] 72 (0,0))):=⟨by rw [← hq_];exact (cF BK101)⟩;have n1_:Aside0 (wc.heap[gb102]? = some (.cells #[.int .i64 a1_0,.int .i64 a1_1,.int .i64 a1_2] 72 (0,0))):=⟨by rw [← hq_];exact (cF BK102)⟩;have n2_:Aside0 (wc.heap[gb103]? = some (.cells #[.int .i64 0,.int .i64 0,.int .i64 0] 72 (0,0))):=⟨by rw [← hq_];exact (cF BK103)⟩;have n3_:Aside0 (Below w.heap.size w wc):=⟨by rw [← hq_];exact (bM HB)⟩;clear BK101 BK102 BK103 HB hq_;have BK101:=n0_;have BK102:=n1_;have BK103:=n2_;have HB:=n3_;clear n0_ n1_ n2_ n3_));have hcz33_0:=aT BK103 0;have hcz33_1:=aT BK103 1;have hcz33_2:=aT BK103 2;have hfz33_0:=aC BK103.out 0;have hfz33_1:=aC BK103.out 1;have hfz33_2:=aC BK103.out 2))
     refine bodyPost_ret (results_cell_row rfl _ _ gb103 72 #[.int .i64 0,.int .i64 0,.int .i64 0] (0,0) _ rfl (eW BK103) Try.underlying72 rfl (by kernel_rfl)) rfl ?_
     exact ⟨dA,bM HB⟩
    ·have c27b0:(t107==0)=false:=beq_eq_false_iff_ne.mpr c27
     have c27b1:(t107 != 0)=true:=bne_iff_ne.mpr c27
     simp only [Option.some.injEq,Prod.mk.injEq] at H
     obtain ⟨rfl,rfl,rfl⟩:=H
     have hnb34:=NB101_102.out
     have hnc34:=NB102_101.out
     have hnb35:=NB101_103.out
     have hnc35:=NB103_101.out
     have hcz36_0:=aT BK101 0
     have hcz36_1:=aT BK101 1
     have hcz36_2:=aT BK101 2
     have hfz36_0:=aC BK101.out 0
     have hfz36_1:=aC BK101.out 1
     have hfz36_2:=aC BK101.out 2
     have hnb37:=NB102_103.out
     have hnc37:=NB103_102.out
     have hcz38_0:=aT BK102 0
     have hcz38_1:=aT BK102 1
     have hcz38_2:=aT BK102 2
     have hfz38_0:=aC BK102.out 0
     have hfz38_1:=aC BK102.out 1
     have hfz38_2:=aC BK102.out 2
     try go_wp2_with (first|((with_reducible refine aV (f:=142) rfl ?_);refine bK (some 53) Try.func142 #[.int .i64 (wrap64 ((wrap64 (a0_1*a1_2))-(wrap64 (a0_2*a1_1)))),.int .i64 (wrap64 ((wrap64 (a0_2*a1_0))-(wrap64 (a0_0*a1_2))))] ?_;(with_reducible refine (iA kj2 (wrap64 ((wrap64 (a0_1*a1_2))-(wrap64 (a0_2*a1_1)))) (wrap64 ((wrap64 (a0_2*a1_0))-(wrap64 (a0_0*a1_2)))) t106 _ A25.out).mono ?_);rintro e w' ⟨rfl,⟨nd,rfl⟩⟩;refine ⟨_,rfl,?_⟩;(try (rw [nJ wc];generalize hq_:World.drewN wc _=wc;have n0_:Aside0 (wc.heap[gb101]? = some (.cells #[.int .i64 a0_0,.int .i64 a0_1,.int .i64 a0_2] 72 (0,0))):=⟨by rw [← hq_];exact (cF BK101)⟩;have n1_:Aside0 (wc.heap[gb102]? = some (.cells #[.int .i64 a1_0,.int .i64 a1_1,.int .i64 a1_2] 72 (0,0))):=⟨by rw [← hq_];exact (cF BK102)⟩;have n2_:Aside0 (wc.heap[gb103]? = some (.cells #[.int .i64 0,.int .i64 0,.int .i64 0] 72 (0,0))):=⟨by rw [← hq_];exact (cF BK103)⟩;have n3_:Aside0 (Below w.heap.size w wc):=⟨by rw [← hq_];exact (bM HB)⟩;clear BK101 BK102 BK103 HB hq_;have BK101:=n0_;have BK102:=n1_;have BK103:=n2_;have HB:=n3_;clear n0_ n1_ n2_ n3_)))|((with_reducible refine aV (f:=142) rfl ?_);refine bK (some 55) Try.func142 #[.int .i64 t106,.int .i64 (wrap64 ((wrap64 (a0_0*a1_1))-(wrap64 (a0_1*a1_0))))] ?_;(with_reducible refine (iA kj2 t106 (wrap64 ((wrap64 (a0_0*a1_1))-(wrap64 (a0_1*a1_0)))) t107 _ A26.out).mono ?_);rintro e w' ⟨rfl,⟨nd,rfl⟩⟩;refine ⟨_,rfl,?_⟩;(try (rw [nJ wc];generalize hq_:World.drewN wc _=wc;have n0_:Aside0 (wc.heap[gb101]? = some (.cells #[.int .i64 a0_0,.int .i64 a0_1,.int .i64 a0_2] 72 (0,0))):=⟨by rw [← hq_];exact (cF BK101)⟩;have n1_:Aside0 (wc.heap[gb102]? = some (.cells #[.int .i64 a1_0,.int .i64 a1_1,.int .i64 a1_2] 72 (0,0))):=⟨by rw [← hq_];exact (cF BK102)⟩;have n2_:Aside0 (wc.heap[gb103]? = some (.cells #[.int .i64 0,.int .i64 0,.int .i64 0] 72 (0,0))):=⟨by rw [← hq_];exact (cF BK103)⟩;have n3_:Aside0 (Below w.heap.size w wc):=⟨by rw [← hq_];exact (bM HB)⟩;clear BK101 BK102 BK103 HB hq_;have BK101:=n0_;have BK102:=n1_;have BK103:=n2_;have HB:=n3_;clear n0_ n1_ n2_ n3_))))
     replace BK101:=aD (aK BK101.out)
     replace BK102:=aD (aK BK102.out)
     replace BK103:=aD (aK BK103.out)
     replace HB:=aD (lC HB.out)
     refine eE (n:=11) (S:=fun w'=>True) (ds:=[]) (bm 11 0) (by kernel_rfl) rfl rfl trivial (fun hHeld=>?_);refine cX rA qC (fun HT_ HW_=>?_)
     generalize wc.drew=w39 at BK101 BK102 BK103 HB hHeld ⊢
     refine dG ((0,0,59,1)::(0,1,60,3)::(0,2,61,7)::(0,3,62,15)::(0,4,63,31)::(0,5,64,63)::(0,6,65,127)::(0,7,66,255)::(0,8,67,511)::(0,9,68,1023)::[]) ?_
     iterate 10 (first|refine jT HT_ ?_)
     refine bL ?_
     refine cS (i:=10) (N:=none) (bm 11 2047) rfl rfl (bI HT_.out (by kernel_rfl)) (by decide) (fun K hK=>?_)
     have hs40:w39.cell? ⟨gb103,0,none⟩=some (.int .i64 0):=aT BK103 0
     have hfs40:=aC BK103.out 0
     have hns40_0:=NB101_103.out
     have hns40_1:=NB102_103.out
     have hms40_0:=NB103_101.out
     have hms40_1:=NB103_102.out
     have hs41:w39.cell? ⟨gb103,1,none⟩=some (.int .i64 0):=aT BK103 1
     have hfs41:=aC BK103.out 1
     have hns41_0:=NB101_103.out
     have hns41_1:=NB102_103.out
     have hms41_0:=NB103_101.out
     have hms41_1:=NB103_102.out
     have hs42:w39.cell? ⟨gb103,2,none⟩=some (.int .i64 0):=aT BK103 2
     have hfs42:=aC BK103.out 2
     have hns42_0:=NB101_103.out
     have hns42_1:=NB102_103.out
     have hms42_0:=NB103_101.out
     have hms42_1:=NB103_102.out
     refine fW (w1:=?_) (by rfl) rfl ?_ ?_
     rotate_left
     ·go_simp
      rfl
     refine hK.out _ _ trivial (fun hHeld=>?_)
     clear hK K
     refine dD (dZ HT_.out (by kernel_rfl)) ?_
     try go_wp2
     refine bodyPost_ret (results_cell_row rfl _ _ gb103 72 #[.int .i64 (wrap64 (Int.tdiv (wrap64 ((wrap64 (a0_1*a1_2))-(wrap64 (a0_2*a1_1)))) t107)),.int .i64 (wrap64 (Int.tdiv (wrap64 ((wrap64 (a0_2*a1_0))-(wrap64 (a0_0*a1_2)))) t107)),.int .i64 (wrap64 (Int.tdiv (wrap64 ((wrap64 (a0_0*a1_1))-(wrap64 (a0_1*a1_0)))) t107))] (0,0) _ rfl (eW BK103) Try.underlying72 rfl (by kernel_rfl)) rfl ?_
     exact ⟨dA,bM HB⟩
/-! ### spec_AreOnOne: function 84 -/
def spec_AreOnOne.f (a0_0:Int) (a0_1:Int) (a0_2:Int) (a1_0:Int) (a1_1:Int) (a1_2:Int) (a2_0:Int) (a2_1:Int) (a2_2:Int):Option (Bool):=(spec_l26Fits.f a0_0 a0_1 a0_2 100000).bind fun t104=>(if t104=true then ((spec_l26Fits.f a1_0 a1_1 a1_2 100000).bind fun t105=>(if t105=true then ((spec_l26Fits.f a2_0 a2_1 a2_2 100000).bind fun t106=>(if t106=true then (some ((wrap64 ((wrap64 ((wrap64 (a0_0*(wrap64 ((wrap64 (a1_1*a2_2))-(wrap64 (a1_2*a2_1))))))-(wrap64 (a0_1*(wrap64 ((wrap64 (a1_0*a2_2))-(wrap64 (a1_2*a2_0))))))))+(wrap64 (a0_2*(wrap64 ((wrap64 (a1_0*a2_1))-(wrap64 (a1_1*a2_0))))))))==0)) else (some false))) else (some false))) else (some false))
set_option maxHeartbeats 8000000 in
set_option maxRecDepth 100000 in
theorem bT (a0_0:Int) (a0_1:Int) (a0_2:Int) (a1_0:Int) (a1_1:Int) (a1_2:Int) (a2_0:Int) (a2_1:Int) (a2_2:Int) (r:Bool) (w:World) (h:spec_AreOnOne.f a0_0 a0_1 a0_2 a1_0 a1_1 a1_2 a2_0 a2_1 a2_2=some r) :
  Calls Try.prog 84 #[.agg #[.int .i64 a0_0,.int .i64 a0_1,.int .i64 a0_2],.agg #[.int .i64 a1_0,.int .i64 a1_1,.int .i64 a1_2],.agg #[.int .i64 a2_0,.int .i64 a2_1,.int .i64 a2_2]] w fun e w'=>e=.returned (.bool r)∧Below w.heap.size w w':=by
 have hu72:=Try.underlying72
 have HB:=aD (Below.refl w.heap.size w)
 unfold spec_AreOnOne.f at h
 have H:=h
 clear h
 replace H:=fQ H
 obtain ⟨t104,A4,H⟩:=H
 by_cases c5:t104=true
 ·subst c5
  rw [if_pos rfl] at H
  replace H:=fQ H
  obtain ⟨t105,A6,H⟩:=H
  by_cases c7:t105=true
  ·subst c7
   rw [if_pos rfl] at H
   replace H:=fQ H
   obtain ⟨t106,A8,H⟩:=H
   by_cases c9:t106=true
   ·subst c9
    rw [if_pos rfl] at H
    obtain rfl:=Option.some.inj H
    go_enter Try.func84,Try.ntmps84
    go_wp2_with (first|((with_reducible refine aW (N:=3) rfl ?_);refine bS (N:=3) #[.int .i64 a0_0,.int .i64 a0_1,.int .i64 a0_2] 72 ?_;intro gb101 hg w10 hbox hb;have BK101:=aD (hbox);have GW101:=aD ((cZ HB hg));have GE101:=aD ((cZ HB hg));replace HB:=aD (aE (bM HB) hb);clear hb hbox hg)|((with_reducible refine aW (N:=4) rfl ?_);refine bS (N:=4) #[.int .i64 a1_0,.int .i64 a1_1,.int .i64 a1_2] 72 ?_;intro gb102 hg w11 hbox hb;have BK102:=aD (hbox);have GW102:=aD ((cZ HB hg));have GE102:=aD ((cZ HB hg));replace HB:=aD (aE (bM HB) hb);have NB101_102:=aD ((bW BK101 hg));have NB102_101:=aD ((bX BK101 hg));replace BK101:=aD (aU BK101 hb);clear hb hbox hg)|((with_reducible refine aW (N:=5) rfl ?_);refine bS (N:=5) #[.int .i64 a2_0,.int .i64 a2_1,.int .i64 a2_2] 72 ?_;intro gb103 hg w12 hbox hb;have BK103:=aD (hbox);have GW103:=aD ((cZ HB hg));have GE103:=aD ((cZ HB hg));replace HB:=aD (aE (bM HB) hb);have NB101_103:=aD ((bW BK101 hg));have NB103_101:=aD ((bX BK101 hg));replace BK101:=aD (aU BK101 hb);have NB102_103:=aD ((bW BK102 hg));have NB103_102:=aD ((bX BK102 hg));replace BK102:=aD (aU BK102 hb);clear hb hbox hg;have hnb13:=NB101_102.out;have hnc13:=NB102_101.out;have hnb14:=NB101_103.out;have hnc14:=NB103_101.out;have hcz15_0:=aT BK101 0;have hcz15_1:=aT BK101 1;have hcz15_2:=aT BK101 2;have hfz15_0:=aC BK101.out 0;have hfz15_1:=aC BK101.out 1;have hfz15_2:=aC BK101.out 2)|((with_reducible refine aV (f:=141) rfl ?_);refine bK (some 8) Try.func141 #[.agg #[.int .i64 a0_0,.int .i64 a0_1,.int .i64 a0_2],.int .i64 100000] ?_;(with_reducible refine (cY a0_0 a0_1 a0_2 100000 true _ A4.out).mono ?_);rintro e w16 ⟨rfl,hb⟩;refine ⟨_,rfl,?_⟩;replace BK101:=aD (aU BK101 hb);replace BK102:=aD (aU BK102 hb);replace BK103:=aD (aU BK103 hb);replace HB:=aD (aE (bM HB) hb);(try clear hb);have hnb17:=NB102_103.out;have hnc17:=NB103_102.out;have hcz18_0:=aT BK102 0;have hcz18_1:=aT BK102 1;have hcz18_2:=aT BK102 2;have hfz18_0:=aC BK102.out 0;have hfz18_1:=aC BK102.out 1;have hfz18_2:=aC BK102.out 2)|(go_at_call 141;(with_reducible refine (cY a1_0 a1_1 a1_2 100000 true _ A6.out).mono ?_);rintro e w19 ⟨rfl,hb⟩;replace BK101:=aD (aU BK101 hb);replace BK102:=aD (aU BK102 hb);replace BK103:=aD (aU BK103 hb);replace HB:=aD (aE (bM HB) hb);(try clear hb);have hcz20_0:=aT BK103 0;have hcz20_1:=aT BK103 1;have hcz20_2:=aT BK103 2;have hfz20_0:=aC BK103.out 0;have hfz20_1:=aC BK103.out 1;have hfz20_2:=aC BK103.out 2)|(go_at_call 141;(with_reducible refine (cY a2_0 a2_1 a2_2 100000 true _ A8.out).mono ?_);rintro e w21 ⟨rfl,hb⟩;replace BK101:=aD (aU BK101 hb);replace BK102:=aD (aU BK102 hb);replace BK103:=aD (aU BK103 hb);replace HB:=aD (aE (bM HB) hb);(try clear hb);have hcz22_0:=aT BK101 0;have hcz22_1:=aT BK101 1;have hcz22_2:=aT BK101 2;have hfz22_0:=aC BK101.out 0;have hfz22_1:=aC BK101.out 1;have hfz22_2:=aC BK101.out 2;have hcz23_0:=aT BK102 0;have hcz23_1:=aT BK102 1;have hcz23_2:=aT BK102 2;have hfz23_0:=aC BK102.out 0;have hfz23_1:=aC BK102.out 1;have hfz23_2:=aC BK102.out 2;have hcz24_0:=aT BK103 0;have hcz24_1:=aT BK103 1;have hcz24_2:=aT BK103 2;have hfz24_0:=aC BK103.out 0;have hfz24_1:=aC BK103.out 1;have hfz24_2:=aC BK103.out 2))
    go_ret
    exact ⟨dA,bM HB⟩
   ·replace c9:=Bool.eq_false_iff.mpr c9
    subst c9
    rw [if_neg (show ¬ (false=true) by decide)] at H
    obtain rfl:=Option.some.inj H
    go_enter Try.func84,Try.ntmps84
    go_wp2_with (first|((with_reducible refine aW (N:=3) rfl ?_);refine bS (N:=3) #[.int .i64 a0_0,.int .i64 a0_1,.int .i64 a0_2] 72 ?_;intro gb101 hg w25 hbox hb;have BK101:=aD (hbox);have GW101:=aD ((cZ HB hg));have GE101:=aD ((cZ HB hg));replace HB:=aD (aE (bM HB) hb);clear hb hbox hg)|((with_reducible refine aW (N:=4) rfl ?_);refine bS (N:=4) #[.int .i64 a1_0,.int .i64 a1_1,.int .i64 a1_2] 72 ?_;intro gb102 hg w26 hbox hb;have BK102:=aD (hbox);have GW102:=aD ((cZ HB hg));have GE102:=aD ((cZ HB hg));replace HB:=aD (aE (bM HB) hb);have NB101_102:=aD ((bW BK101 hg));have NB102_101:=aD ((bX BK101 hg));replace BK101:=aD (aU BK101 hb);clear hb hbox hg)|((with_reducible refine aW (N:=5) rfl ?_);refine bS (N:=5) #[.int .i64 a2_0,.int .i64 a2_1,.int .i64 a2_2] 72 ?_;intro gb103 hg w27 hbox hb;have BK103:=aD (hbox);have GW103:=aD ((cZ HB hg));have GE103:=aD ((cZ HB hg));replace HB:=aD (aE (bM HB) hb);have NB101_103:=aD ((bW BK101 hg));have NB103_101:=aD ((bX BK101 hg));replace BK101:=aD (aU BK101 hb);have NB102_103:=aD ((bW BK102 hg));have NB103_102:=aD ((bX BK102 hg));replace BK102:=aD (aU BK102 hb);clear hb hbox hg;have hnb28:=NB101_102.out;have hnc28:=NB102_101.out;have hnb29:=NB101_103.out;have hnc29:=NB103_101.out;have hcz30_0:=aT BK101 0;have hcz30_1:=aT BK101 1;have hcz30_2:=aT BK101 2;have hfz30_0:=aC BK101.out 0;have hfz30_1:=aC BK101.out 1;have hfz30_2:=aC BK101.out 2)|((with_reducible refine aV (f:=141) rfl ?_);refine bK (some 8) Try.func141 #[.agg #[.int .i64 a0_0,.int .i64 a0_1,.int .i64 a0_2],.int .i64 100000] ?_;(with_reducible refine (cY a0_0 a0_1 a0_2 100000 true _ A4.out).mono ?_);rintro e w31 ⟨rfl,hb⟩;refine ⟨_,rfl,?_⟩;replace BK101:=aD (aU BK101 hb);replace BK102:=aD (aU BK102 hb);replace BK103:=aD (aU BK103 hb);replace HB:=aD (aE (bM HB) hb);(try clear hb);have hnb32:=NB102_103.out;have hnc32:=NB103_102.out;have hcz33_0:=aT BK102 0;have hcz33_1:=aT BK102 1;have hcz33_2:=aT BK102 2;have hfz33_0:=aC BK102.out 0;have hfz33_1:=aC BK102.out 1;have hfz33_2:=aC BK102.out 2)|(go_at_call 141;(with_reducible refine (cY a1_0 a1_1 a1_2 100000 true _ A6.out).mono ?_);rintro e w34 ⟨rfl,hb⟩;replace BK101:=aD (aU BK101 hb);replace BK102:=aD (aU BK102 hb);replace BK103:=aD (aU BK103 hb);replace HB:=aD (aE (bM HB) hb);(try clear hb);have hcz35_0:=aT BK103 0;have hcz35_1:=aT BK103 1;have hcz35_2:=aT BK103 2;have hfz35_0:=aC BK103.out 0;have hfz35_1:=aC BK103.out 1;have hfz35_2:=aC BK103.out 2)|(go_at_call 141;(with_reducible refine (cY a2_0 a2_1 a2_2 100000 false _ A8.out).mono ?_);rintro e w36 ⟨rfl,hb⟩;replace BK101:=aD (aU BK101 hb);replace BK102:=aD (aU BK102 hb);replace BK103:=aD (aU BK103 hb);replace HB:=aD (aE (bM HB) hb);(try clear hb)))
    go_ret
    exact ⟨dA,bM HB⟩
  ·replace c7:=Bool.eq_false_iff.mpr c7
   subst c7
   rw [if_neg (show ¬ (false=true) by decide)] at H
   obtain rfl:=Option.some.inj H
   go_enter Try.func84,Try.ntmps84
   go_wp2_with (first|((with_reducible refine aW (N:=3) rfl ?_);refine bS (N:=3) #[.int .i64 a0_0,.int .i64 a0_1,.int .i64 a0_2] 72 ?_;intro gb101 hg w37 hbox hb;have BK101:=aD (hbox);have GW101:=aD ((cZ HB hg));have GE101:=aD ((cZ HB hg));replace HB:=aD (aE (bM HB) hb);clear hb hbox hg)|((with_reducible refine aW (N:=4) rfl ?_);refine bS (N:=4) #[.int .i64 a1_0,.int .i64 a1_1,.int .i64 a1_2] 72 ?_;intro gb102 hg w38 hbox hb;have BK102:=aD (hbox);have GW102:=aD ((cZ HB hg));have GE102:=aD ((cZ HB hg));replace HB:=aD (aE (bM HB) hb);have NB101_102:=aD ((bW BK101 hg));have NB102_101:=aD ((bX BK101 hg));replace BK101:=aD (aU BK101 hb);clear hb hbox hg)|((with_reducible refine aW (N:=5) rfl ?_);refine bS (N:=5) #[.int .i64 a2_0,.int .i64 a2_1,.int .i64 a2_2] 72 ?_;intro gb103 hg w39 hbox hb;have BK103:=aD (hbox);have GW103:=aD ((cZ HB hg));have GE103:=aD ((cZ HB hg));replace HB:=aD (aE (bM HB) hb);have NB101_103:=aD ((bW BK101 hg));have NB103_101:=aD ((bX BK101 hg));replace BK101:=aD (aU BK101 hb);have NB102_103:=aD ((bW BK102 hg));have NB103_102:=aD ((bX BK102 hg));replace BK102:=aD (aU BK102 hb);clear hb hbox hg;have hnb40:=NB101_102.out;have hnc40:=NB102_101.out;have hnb41:=NB101_103.out;have hnc41:=NB103_101.out;have hcz42_0:=aT BK101 0;have hcz42_1:=aT BK101 1;have hcz42_2:=aT BK101 2;have hfz42_0:=aC BK101.out 0;have hfz42_1:=aC BK101.out 1;have hfz42_2:=aC BK101.out 2)|((with_reducible refine aV (f:=141) rfl ?_);refine bK (some 8) Try.func141 #[.agg #[.int .i64 a0_0,.int .i64 a0_1,.int .i64 a0_2],.int .i64 100000] ?_;(with_reducible refine (cY a0_0 a0_1 a0_2 100000 true _ A4.out).mono ?_);rintro e w43 ⟨rfl,hb⟩;refine ⟨_,rfl,?_⟩;replace BK101:=aD (aU BK101 hb);replace BK102:=aD (aU BK102 hb);replace BK103:=aD (aU BK103 hb);replace HB:=aD (aE (bM HB) hb);(try clear hb);have hnb44:=NB102_103.out;have hnc44:=NB103_102.out;have hcz45_0:=aT BK102 0;have hcz45_1:=aT BK102 1;have hcz45_2:=aT BK102 2;have hfz45_0:=aC BK102.out 0;have hfz45_1:=aC BK102.out 1;have hfz45_2:=aC BK102.out 2)|(go_at_call 141;(with_reducible refine (cY a1_0 a1_1 a1_2 100000 false _ A6.out).mono ?_);rintro e w46 ⟨rfl,hb⟩;replace BK101:=aD (aU BK101 hb);replace BK102:=aD (aU BK102 hb);replace BK103:=aD (aU BK103 hb);replace HB:=aD (aE (bM HB) hb);(try clear hb)))
   go_ret
   exact ⟨dA,bM HB⟩
 ·replace c5:=Bool.eq_false_iff.mpr c5
  subst c5
  rw [if_neg (show ¬ (false=true) by decide)] at H
  obtain rfl:=Option.some.inj H
  go_enter Try.func84,Try.ntmps84
  go_wp2_with (first|((with_reducible refine aW (N:=3) rfl ?_);refine bS (N:=3) #[.int .i64 a0_0,.int .i64 a0_1,.int .i64 a0_2] 72 ?_;intro gb101 hg w47 hbox hb;have BK101:=aD (hbox);have GW101:=aD ((cZ HB hg));have GE101:=aD ((cZ HB hg));replace HB:=aD (aE (bM HB) hb);clear hb hbox hg)|((with_reducible refine aW (N:=4) rfl ?_);refine bS (N:=4) #[.int .i64 a1_0,.int .i64 a1_1,.int .i64 a1_2] 72 ?_;intro gb102 hg w48 hbox hb;have BK102:=aD (hbox);have GW102:=aD ((cZ HB hg));have GE102:=aD ((cZ HB hg));replace HB:=aD (aE (bM HB) hb);have NB101_102:=aD ((bW BK101 hg));have NB102_101:=aD ((bX BK101 hg));replace BK101:=aD (aU BK101 hb);clear hb hbox hg)|((with_reducible refine aW (N:=5) rfl ?_);refine bS (N:=5) #[.int .i64 a2_0,.int .i64 a2_1,.int .i64 a2_2] 72 ?_;intro gb103 hg w49 hbox hb;have BK103:=aD (hbox);have GW103:=aD ((cZ HB hg));have GE103:=aD ((cZ HB hg));replace HB:=aD (aE (bM HB) hb);have NB101_103:=aD ((bW BK101 hg));have NB103_101:=aD ((bX BK101 hg));replace BK101:=aD (aU BK101 hb);have NB102_103:=aD ((bW BK102 hg));have NB103_102:=aD ((bX BK102 hg));replace BK102:=aD (aU BK102 hb);clear hb hbox hg;have hnb50:=NB101_102.out;have hnc50:=NB102_101.out;have hnb51:=NB101_103.out;have hnc51:=NB103_101.out;have hcz52_0:=aT BK101 0;have hcz52_1:=aT BK101 1;have hcz52_2:=aT BK101 2;have hfz52_0:=aC BK101.out 0;have hfz52_1:=aC BK101.out 1;have hfz52_2:=aC BK101.out 2)|((with_reducible refine aV (f:=141) rfl ?_);refine bK (some 8) Try.func141 #[.agg #[.int .i64 a0_0,.int .i64 a0_1,.int .i64 a0_2],.int .i64 100000] ?_;(with_reducible refine (cY a0_0 a0_1 a0_2 100000 false _ A4.out).mono ?_);rintro e w53 ⟨rfl,hb⟩;refine ⟨_,rfl,?_⟩;replace BK101:=aD (aU BK101 hb);replace BK102:=aD (aU BK102 hb);replace BK103:=aD (aU BK103 hb);replace HB:=aD (aE (bM HB) hb);(try clear hb)))
  go_ret
  exact ⟨dA,bM HB⟩
/-! ### spec_TripleOf: function 87 -/
def spec_TripleOf.f (a0_0:Int) (a0_1:Int):Option (Int×Int×Int):=some (a0_0,a0_1,1)
set_option maxHeartbeats 8000000 in
set_option maxRecDepth 100000 in
theorem bO (a0_0:Int) (a0_1:Int) (r1:Int) (r2:Int) (r3:Int) (w:World) (h:spec_TripleOf.f a0_0 a0_1=some (r1,r2,r3)) :
  Calls Try.prog 87 #[.agg #[.int .i64 a0_0,.int .i64 a0_1]] w fun e w'=>e=.returned (.agg #[.int .i64 r1,.int .i64 r2,.int .i64 r3])∧Below w.heap.size w w':=by
 have hu80:=Try.underlying80
 have hu72:=Try.underlying72
 have HB:=aD (Below.refl w.heap.size w)
 unfold spec_TripleOf.f at h
 have H:=h
 clear h
 simp only [Option.some.injEq,Prod.mk.injEq] at H
 obtain ⟨rfl,rfl,rfl⟩:=H
 go_enter Try.func87,Try.ntmps87
 go_wp2_with (first|((with_reducible refine aW (N:=1) rfl ?_);refine bS (N:=1) #[.int .i64 a0_0,.int .i64 a0_1] 80 ?_;intro gb101 hg w2 hbox hb;have BK101:=aD (hbox);have GW101:=aD ((cZ HB hg));have GE101:=aD ((cZ HB hg));replace HB:=aD (aE (bM HB) hb);clear hb hbox hg)|((with_reducible refine aW (N:=2) rfl ?_);refine bS (N:=2) #[.int .i64 0,.int .i64 0,.int .i64 0] 72 ?_;intro gb102 hg w3 hbox hb;have BK102:=aD (hbox);have GW102:=aD ((cZ HB hg));have GE102:=aD ((cZ HB hg));replace HB:=aD (aE (bM HB) hb);have NB101_102:=aD ((bW BK101 hg));have NB102_101:=aD ((bX BK101 hg));replace BK101:=aD (aU BK101 hb);clear hb hbox hg;have hnb4:=NB101_102.out;have hnc4:=NB102_101.out;have hcz5_0:=aT BK101 0;have hcz5_1:=aT BK101 1;have hfz5_0:=aC BK101.out 0;have hfz5_1:=aC BK101.out 1;have hcz6_0:=aT BK102 0;have hcz6_1:=aT BK102 1;have hcz6_2:=aT BK102 2;have hfz6_0:=aC BK102.out 0;have hfz6_1:=aC BK102.out 1;have hfz6_2:=aC BK102.out 2))
 refine bodyPost_ret (results_cell_row rfl _ _ gb102 72 #[.int .i64 a0_0,.int .i64 a0_1,.int .i64 1] (0,0) _ rfl (eW BK102) Try.underlying72 rfl (by kernel_rfl)) rfl ?_
 exact ⟨dA,bM HB⟩
theorem eqA80 (d:Nat) (w:World) (x0 y0:Int) (x1 y1:Int) :
  (Op.equalIn (d+2) 80 (.agg #[.int .i64 x0,.int .i64 x1]) (.agg #[.int .i64 y0,.int .i64 y1])).run Try.prog w=.ok (x0==y0&&(x1==y1)) w:=by
 refine AV Try.underlying80 (by kernel_rfl) ?_
 refine tW (by rfl) (by go_simp;rfl) (by go_simp;rfl) (by go_simp) ?_
 exact wY (by rfl) (by go_simp;rfl) (by go_simp;rfl) (by go_simp)
/-! ### spec_l2Fits: function 148 -/
def spec_l2Fits.f (a0_0:Int) (a0_1:Int) (a1:Int):Option (Bool):=(spec_l1In.f a0_0 (wrap64 (-a1)) a1).bind fun t102=>(if t102=true then ((spec_l1In.f a0_1 (wrap64 (-a1)) a1).bind fun t103=>(some t103)) else (some false))
set_option maxHeartbeats 8000000 in
set_option maxRecDepth 100000 in
theorem fT (a0_0:Int) (a0_1:Int) (a1:Int) (r:Bool) (w:World) (h:spec_l2Fits.f a0_0 a0_1 a1=some r) :
  Calls Try.prog 148 #[.agg #[.int .i64 a0_0,.int .i64 a0_1],.int .i64 a1] w fun e w'=>e=.returned (.bool r)∧Below w.heap.size w w':=by
 have hu80:=Try.underlying80
 have HB:=aD (Below.refl w.heap.size w)
 unfold spec_l2Fits.f at h
 have H:=h
 clear h
 replace H:=fQ H
 obtain ⟨t102,A3,H⟩:=H
 by_cases c4:t102=true
 ·subst c4
  rw [if_pos rfl] at H
  replace H:=fQ H
  obtain ⟨t103,A5,H⟩:=H
  obtain rfl:=Option.some.inj H
  go_enter Try.func148,Try.ntmps148
  go_wp2_with (first|((with_reducible refine aW (N:=2) rfl ?_);refine bS (N:=2) #[.int .i64 a0_0,.int .i64 a0_1] 80 ?_;intro gb101 hg w6 hbox hb;have BK101:=aD (hbox);have GW101:=aD ((cZ HB hg));have GE101:=aD ((cZ HB hg));replace HB:=aD (aE (bM HB) hb);clear hb hbox hg;have hcz7_0:=aT BK101 0;have hcz7_1:=aT BK101 1;have hfz7_0:=aC BK101.out 0;have hfz7_1:=aC BK101.out 1)|((with_reducible refine aV (f:=91) rfl ?_);refine bK (some 10) Try.func91 #[.int .i64 a0_0,.int .i64 (wrap64 (-a1)),.int .i64 a1] ?_;(with_reducible refine (eZ a0_0 (wrap64 (-a1)) a1 true _ A3.out).mono ?_);rintro e w' ⟨rfl,⟨nd,rfl⟩⟩;refine ⟨_,rfl,?_⟩)|(go_at_call 91;(with_reducible refine (eZ a0_1 (wrap64 (-a1)) a1 t103 _ A5.out).mono ?_);rintro e w' ⟨rfl,⟨nd,rfl⟩⟩))
  go_ret
  exact ⟨dA,bM HB⟩
 ·replace c4:=Bool.eq_false_iff.mpr c4
  subst c4
  rw [if_neg (show ¬ (false=true) by decide)] at H
  obtain rfl:=Option.some.inj H
  go_enter Try.func148,Try.ntmps148
  go_wp2_with (first|((with_reducible refine aW (N:=2) rfl ?_);refine bS (N:=2) #[.int .i64 a0_0,.int .i64 a0_1] 80 ?_;intro gb101 hg w8 hbox hb;have BK101:=aD (hbox);have GW101:=aD ((cZ HB hg));have GE101:=aD ((cZ HB hg));replace HB:=aD (aE (bM HB) hb);clear hb hbox hg;have hcz9_0:=aT BK101 0;have hcz9_1:=aT BK101 1;have hfz9_0:=aC BK101.out 0;have hfz9_1:=aC BK101.out 1)|((with_reducible refine aV (f:=91) rfl ?_);refine bK (some 10) Try.func91 #[.int .i64 a0_0,.int .i64 (wrap64 (-a1)),.int .i64 a1] ?_;(with_reducible refine (eZ a0_0 (wrap64 (-a1)) a1 false _ A3.out).mono ?_);rintro e w' ⟨rfl,⟨nd,rfl⟩⟩;refine ⟨_,rfl,?_⟩))
  go_ret
  exact ⟨dA,bM HB⟩
end Go.Proofs.Ytldcckcljjlglaa.P

namespace Go.Proofs.Ytldcckcljjlglaa.P
open Go.RowKit Go.Proofs.YtldcckcljjlglaaW.PrintWords Go.Proofs.YtldcckcljjlglaaW.PrintLast Go.Proofs.YtldcckcljjlglaaW.PrintMore
attribute [local go_sem] max2_int min2_int max_two min_two max_three min_three max_four min_four
set_option linter.unusedVariables false
set_option linter.unusedSimpArgs false
attribute [local go_sem high] eqA80
/-! ### spec_l26Six: function 122 -/
mutual
def dM:Nat→List (dB)→List (eV)→Int→Option ((List (eV))×Bool)
 | 0,_,_,_=>none
 | k+1,x0,x4,x5=>if x5<(x0.length:Int) then (if 0≤x5 then ((spec_l2Fits.f ((aA x0 x5).f0) ((aA x0 x5).f1) 20).bind fun t105=>(if t105=true then (dI k x0 x4 x5 0) else (some ((([]:List (eV))),false)))) else (none)) else (some (x4,((x4.length:Int)==6)))
def dI:Nat→List (dB)→List (eV)→Int→Int→Option ((List (eV))×Bool)
 | 0,_,_,_,_=>none
 | k+1,x0,x4,x5,x6=>if x6<x5 then (if 0≤x6 then (if x6<(x0.length:Int) then (if 0≤x5 then (if x5<(x0.length:Int) then (if (((aA x0 x6).f0)==((aA x0 x5).f0)&&(((aA x0 x6).f1)==((aA x0 x5).f1)))=true then (some ((([]:List (eV))),false)) else (dI k x0 x4 x5 (wrap64 (x6+1)))) else (none)) else (none)) else (none)) else (none)) else (if 0≤x5 then (if x5<(x0.length:Int) then ((spec_TripleOf.f ((aA x0 x5).f0) ((aA x0 x5).f1)).bind fun bt115=>(if x4.length<5864062014805 then (dM k x0 (x4++[(⟨bt115.1,bt115.2.1,bt115.2.2⟩:eV)]) (wrap64 (x5+1))) else (none))) else (none)) else (none))
end
def spec_l26Six.f (k:Nat) (l0:List (dB)):Option ((List (eV))×Bool):=dM k l0 (([]:List (eV))) 0
set_option maxHeartbeats 8000000 in
set_option maxRecDepth 100000 in
theorem gL (k : Nat) (A0 : Option Addr) (c0 : Nat) (l0 : List (dB)) (r1 : List (eV)) (r2 : Bool) (w : World) (hr0 : Kd.C gA w A0 l0.length l0) (hc0 : l0.length ≤ c0) (h : spec_l26Six.f k l0 = some (r1, r2)) :
  Calls Try.prog 122 #[.slice A0 l0.length c0] w fun e w'=>∃ v0_:Value,e=.returned (.tuple #[v0_,.bool r2])∧Kd.R gG 72 w' w.heap.size (fun _=>True) v0_ r1∧Below w.heap.size w w':=by
 have hu80:=Try.underlying80
 have HR0:=aD hr0
 have HC0:=aD hc0
 clear hr0 hc0
 have HB:=aD (Below.refl w.heap.size w)
 unfold spec_l26Six.f at h
 have H:=h
 clear h
 obtain ⟨y101,hy101⟩:∃ y_:List (eV),y_=(([]:List (eV))):=⟨_,rfl⟩
 first|(with_reducible replace H:=uU hy101 H)|(with_reducible replace H:=uV hy101 H)|rw [← hy101] at H
 have Ny101:=aD hy101
 clear hy101
 have H':=aD H
 clear H
 go_enter Try.func122,Try.ntmps122
 go_wp2_with (first|((with_reducible refine aW (N:=7) rfl ?_);refine Kd.R_lit gG _ 72 ?hg (N:=7) ?hd (xs:=([]:List (eV))) (inner:=[]) (ok:=fun _=>True) (okp:=fun _=>True) ?hr ?hp (fun _ hk=>hk) trivial (Below.refl _ _) (Nat.le_refl _) (by simp) ?_;(case hd=>rfl);(case hg=>rfl);(case hr=>first|(go_simp;done)|(go_simp;rfl));(case hp=>exact (iE.none _ _));intro v102 w2 ho3 hb hg_ hnew_;clear hg_ hnew_;(first|rw [← Ny101.out] at ho3|(simp only [Int.reduceToNat] at ho3;rw [← Ny101.out] at ho3));have HO103:=aD (Kd.R_lower ho3 (aM (bM HB)));replace HB:=aD (aE (bM HB) hb);clear hb ho3))
 repeat (go_quiet (first|((with_reducible refine aW (N:=7) rfl ?_);refine Kd.R_lit gG _ 72 ?hg (N:=7) ?hd (xs:=([]:List (eV))) (inner:=[]) (ok:=fun _=>True) (okp:=fun _=>True) ?hr ?hp (fun _ hk=>hk) trivial (Below.refl _ _) (Nat.le_refl _) (by simp) ?_;(case hd=>rfl);(case hg=>rfl);(case hr=>first|(go_simp;done)|(go_simp;rfl));(case hp=>exact (iE.none _ _));intro v102 w2 ho3 hb hg_ hnew_;clear hg_ hnew_;(first|rw [← Ny101.out] at ho3|(simp only [Int.reduceToNat] at ho3;rw [← Ny101.out] at ho3));have HO103:=aD (Kd.R_lower ho3 (aM (bM HB)));replace HB:=aD (aE (bM HB) hb);clear hb ho3));try go_wp2_with (first|((with_reducible refine aW (N:=7) rfl ?_);refine Kd.R_lit gG _ 72 ?hg (N:=7) ?hd (xs:=([]:List (eV))) (inner:=[]) (ok:=fun _=>True) (okp:=fun _=>True) ?hr ?hp (fun _ hk=>hk) trivial (Below.refl _ _) (Nat.le_refl _) (by simp) ?_;(case hd=>rfl);(case hg=>rfl);(case hr=>first|(go_simp;done)|(go_simp;rfl));(case hp=>exact (iE.none _ _));intro v102 w2 ho3 hb hg_ hnew_;clear hg_ hnew_;(first|rw [← Ny101.out] at ho3|(simp only [Int.reduceToNat] at ho3;rw [← Ny101.out] at ho3));have HO103:=aD (Kd.R_lower ho3 (aM (bM HB)));replace HB:=aD (aE (bM HB) hb);clear hb ho3)))
 go_loopg [4,5] k (fun kq v4 v5 w'=>∃ (x4_1:List (eV)) (x5_1:Int),v5=.int .i64 x5_1∧Aside0 (dM kq l0 x4_1 x5_1=some (r1,r2))∧Aside0 (kq≤k)∧Aside0 (Kd.R gG 72 w' w.heap.size (fun _=>True) v4 x4_1)∧Aside0 (Below w.heap.size w w'))
 case atStart=>exact ⟨(y101),(0),eO,H',⟨Nat.le_refl _⟩,⟨bN HO103⟩,⟨bM HB⟩⟩
 case round =>
  clear H'
  obtain ⟨x4_1,x5_1,rfl,HA,HK1,HO_4,HB⟩:=hrel
  cases gk with
  | zero=>exact absurd HA.out (by simp [dM])
  | succ k1 =>
   have H:=HA.out
   clear HA
   simp only [dM] at H
   rcases mJ H with ⟨c4b0,H⟩|⟨c4b0,H⟩
   ·obtain ⟨c5b0,H⟩:=jU H
    replace H:=iS H
    obtain ⟨t105,A60,H⟩:=H
    replace H:(if t105=true then (dI k1 l0 x4_1 x5_1 0) else (some ((([]:List (eV))),false)))=some (r1,r2):=H
    have A6:=aD A60
    clear A60
    by_cases c7:t105=true
    ·subst c7
     rw [if_pos rfl] at H
     have H':=aD H
     clear H
     have p104:0≤(x5_1:Int):=dX
     have q104:x5_1<(l0.length:Int):=dX
     obtain ⟨ad104,e104,hx104_0,hx104_1⟩:=cC HR0.out x5_1 p104 q104
     cases e104
     replace hx104_0:=kT HB hx104_0
     replace hx104_1:=kT HB hx104_1
     replace p104:=eq_true p104
     replace q104:=eq_true q104
     go_wp2_with (first|(go_at_call 148;(with_reducible refine (fT ((aA l0 x5_1).f0) ((aA l0 x5_1).f1) 20 true _ A6.out).mono ?_);rintro e w8 ⟨rfl,hb⟩;replace HO_4:=aD (Kd.R_below (bN HO_4) hb);replace HB:=aD (aE (bM HB) hb);(try clear hb);(try clear hk)))
     repeat (go_quiet (first|(go_at_call 148;(with_reducible refine (fT ((aA l0 x5_1).f0) ((aA l0 x5_1).f1) 20 true _ A6.out).mono ?_);rintro e w8 ⟨rfl,hb⟩;replace HO_4:=aD (Kd.R_below (bN HO_4) hb);replace HB:=aD (aE (bM HB) hb);(try clear hb);(try clear hk)));try go_wp2_with (first|(go_at_call 148;(with_reducible refine (fT ((aA l0 x5_1).f0) ((aA l0 x5_1).f1) 20 true _ A6.out).mono ?_);rintro e w8 ⟨rfl,hb⟩;replace HO_4:=aD (Kd.R_below (bN HO_4) hb);replace HB:=aD (aE (bM HB) hb);(try clear hb);(try clear hk))))
     go_loopg [6] k1 (fun kq v6 w'=>∃ (x6_2:Int),v6=.int .i64 x6_2∧Aside0 (dI kq l0 x4_1 x5_1 x6_2=some (r1,r2))∧Aside0 (kq≤k1)∧Aside0 (Kd.R gG 72 w' w.heap.size (fun _=>True) u4 x4_1)∧Aside0 (Below w.heap.size w w'))
     case atStart=>exact ⟨(0),eO,H',⟨Nat.le_refl _⟩,⟨bN HO_4⟩,⟨bM HB⟩⟩
     case round =>
      clear H'
      try clear c4b0
      try clear c5b0
      try clear c7
      try clear hx104_0
      try clear hx104_1
      try clear p104
      try clear q104
      obtain ⟨x6_2,rfl,HA,HK2,HO_4,HB⟩:=hrel
      cases gk with
      | zero=>exact absurd HA.out (by simp [dI])
      | succ k2 =>
       have H:=HA.out
       clear HA
       simp only [dI] at H
       rcases mJ H with ⟨c9b0,H⟩|⟨c9b0,H⟩
       ·obtain ⟨c10b0,H⟩:=jU H
        obtain ⟨c11b0,H⟩:=jU H
        obtain ⟨c12b0,H⟩:=jU H
        obtain ⟨c13b0,H⟩:=jU H
        rcases kK H with ⟨c14,H⟩|⟨c14,H⟩
        ·have c14b0:(((aA l0 x6_2).f0)==((aA l0 x5_1).f0)&&(((aA l0 x6_2).f1)==((aA l0 x5_1).f1)))=true:=c14
         (try (have c14b1:decide (((aA l0 x6_2).f0)=((aA l0 x5_1).f0)&&(((aA l0 x6_2).f1)==((aA l0 x5_1).f1)))=true:=by simpa using c14))
         (try (have c14b2:(((aA l0 x6_2).f0)==((aA l0 x5_1).f0)&&(((aA l0 x6_2).f1)==((aA l0 x5_1).f1)))=true:=by simpa using c14))
         clear c14
         obtain ⟨y111,hy111⟩:∃ y_:List (eV),y_=(([]:List (eV))):=⟨_,rfl⟩
         first|(with_reducible replace H:=uU hy111 H)|(with_reducible replace H:=uV hy111 H)|rw [← hy111] at H
         have Ny111:=aD hy111
         clear hy111
         simp only [Option.some.injEq,Prod.mk.injEq] at H
         obtain ⟨rfl,rfl⟩:=H
         have p109:0≤(x6_2:Int):=dX
         have q109:x6_2<(l0.length:Int):=dX
         obtain ⟨ad109,e109,hx109_0,hx109_1⟩:=cC HR0.out x6_2 p109 q109
         obtain rfl:ad104=ad109:=(by injection e109)
         replace hx109_0:=kT HB hx109_0
         replace hx109_1:=kT HB hx109_1
         replace p109:=eq_true p109
         replace q109:=eq_true q109
         have p110:0≤(x5_1:Int):=dX
         have q110:x5_1<(l0.length:Int):=dX
         obtain ⟨ad110,e110,hx110_0,hx110_1⟩:=cC HR0.out x5_1 p110 q110
         obtain rfl:ad104=ad110:=(by injection e110)
         replace hx110_0:=kT HB hx110_0
         replace hx110_1:=kT HB hx110_1
         replace p110:=eq_true p110
         replace q110:=eq_true q110
         go_wp2_with (first|((with_reducible refine aW (N:=35) rfl ?_);refine Kd.R_lit gG _ 72 ?hg (N:=35) ?hd (xs:=([]:List (eV))) (inner:=[]) (ok:=fun _=>True) (okp:=fun _=>True) ?hr ?hp (fun _ hk=>hk) trivial (Below.refl _ _) (Nat.le_refl _) (by simp) ?_;(case hd=>rfl);(case hg=>rfl);(case hr=>first|(go_simp;done)|(go_simp;rfl));(case hp=>exact (iE.none _ _));intro v112 w15 ho16 hb hg_ hnew_;clear hg_ hnew_;(first|rw [← Ny111.out] at ho16|(simp only [Int.reduceToNat] at ho16;rw [← Ny111.out] at ho16));have HO113:=aD (Kd.R_lower (Kd.R_new' ho16 (Kd.R_lt (bN HO_4))) (aM (bM HB)));replace HO_4:=aD (Kd.R_elder' (bN HO_4) (Kd.R_base ho16) hb);replace HB:=aD (aE (bM HB) hb);clear hb ho16))
         repeat (go_quiet (first|((with_reducible refine aW (N:=35) rfl ?_);refine Kd.R_lit gG _ 72 ?hg (N:=35) ?hd (xs:=([]:List (eV))) (inner:=[]) (ok:=fun _=>True) (okp:=fun _=>True) ?hr ?hp (fun _ hk=>hk) trivial (Below.refl _ _) (Nat.le_refl _) (by simp) ?_;(case hd=>rfl);(case hg=>rfl);(case hr=>first|(go_simp;done)|(go_simp;rfl));(case hp=>exact (iE.none _ _));intro v112 w15 ho16 hb hg_ hnew_;clear hg_ hnew_;(first|rw [← Ny111.out] at ho16|(simp only [Int.reduceToNat] at ho16;rw [← Ny111.out] at ho16));have HO113:=aD (Kd.R_lower (Kd.R_new' ho16 (Kd.R_lt (bN HO_4))) (aM (bM HB)));replace HO_4:=aD (Kd.R_elder' (bN HO_4) (Kd.R_base ho16) hb);replace HB:=aD (aE (bM HB) hb);clear hb ho16));try go_wp2_with (first|((with_reducible refine aW (N:=35) rfl ?_);refine Kd.R_lit gG _ 72 ?hg (N:=35) ?hd (xs:=([]:List (eV))) (inner:=[]) (ok:=fun _=>True) (okp:=fun _=>True) ?hr ?hp (fun _ hk=>hk) trivial (Below.refl _ _) (Nat.le_refl _) (by simp) ?_;(case hd=>rfl);(case hg=>rfl);(case hr=>first|(go_simp;done)|(go_simp;rfl));(case hp=>exact (iE.none _ _));intro v112 w15 ho16 hb hg_ hnew_;clear hg_ hnew_;(first|rw [← Ny111.out] at ho16|(simp only [Int.reduceToNat] at ho16;rw [← Ny111.out] at ho16));have HO113:=aD (Kd.R_lower (Kd.R_new' ho16 (Kd.R_lt (bN HO_4))) (aM (bM HB)));replace HO_4:=aD (Kd.R_elder' (bN HO_4) (Kd.R_base ho16) hb);replace HB:=aD (aE (bM HB) hb);clear hb ho16)))
         go_ret2
         exact ⟨_,dA,by (with_reducible repeat (first|apply fK|apply gF|apply eQ));exact Kd.R_mono HO113.out (fun _ hk=>trivial),bM HB⟩
        ·have c14b0:(((aA l0 x6_2).f0)==((aA l0 x5_1).f0)&&(((aA l0 x6_2).f1)==((aA l0 x5_1).f1)))=false:=by simpa using c14
         (try (have c14b1:decide (((aA l0 x6_2).f0)=((aA l0 x5_1).f0)&&(((aA l0 x6_2).f1)==((aA l0 x5_1).f1)))=false:=by simpa using c14))
         (try (have c14b2:(((aA l0 x6_2).f0)==((aA l0 x5_1).f0)&&(((aA l0 x6_2).f1)==((aA l0 x5_1).f1)))=false:=by simpa using c14))
         (try (have c14b3:¬ (((aA l0 x6_2).f0)=((aA l0 x5_1).f0)&&(((aA l0 x6_2).f1)==((aA l0 x5_1).f1))):=by simpa using c14))
         clear c14
         have H':=aD H
         clear H
         have p109:0≤(x6_2:Int):=dX
         have q109:x6_2<(l0.length:Int):=dX
         obtain ⟨ad109,e109,hx109_0,hx109_1⟩:=cC HR0.out x6_2 p109 q109
         obtain rfl:ad104=ad109:=(by injection e109)
         replace hx109_0:=kT HB hx109_0
         replace hx109_1:=kT HB hx109_1
         replace p109:=eq_true p109
         replace q109:=eq_true q109
         have p110:0≤(x5_1:Int):=dX
         have q110:x5_1<(l0.length:Int):=dX
         obtain ⟨ad110,e110,hx110_0,hx110_1⟩:=cC HR0.out x5_1 p110 q110
         obtain rfl:ad104=ad110:=(by injection e110)
         replace hx110_0:=kT HB hx110_0
         replace hx110_1:=kT HB hx110_1
         replace p110:=eq_true p110
         replace q110:=eq_true q110
         go_wp2
         repeat (go_quiet (fail);try go_wp2)
         go_roundg k2
         case measure=>have:=HK1.out;have:=HK2.out;omega
         case rel=>exact ⟨(wrap64 (x6_2+1)),eO,H',⟨by have:=HK1.out;have:=HK2.out;omega⟩,⟨bN HO_4⟩,⟨bM HB⟩⟩
       ·obtain ⟨c17b0,H⟩:=jU H
        obtain ⟨c18b0,H⟩:=jU H
        replace H:=fQ H
        obtain ⟨⟨t115,t116,t117⟩,A19,H⟩:=H
        try dsimp only at H
        obtain ⟨c20,H⟩:=iC H
        have LMc20:=aD c20
        clear c20
        obtain ⟨y118,hy118⟩:∃ y_:List (eV),y_=(x4_1++[(⟨t115,t116,t117⟩:eV)]):=⟨_,rfl⟩
        first|(with_reducible replace H:=uU hy118 H)|(with_reducible replace H:=uV hy118 H)|rw [← hy118] at H
        have Ny118:=aD hy118
        clear hy118
        have H':=aD H
        clear H
        have p114:0≤(x5_1:Int):=dX
        have q114:x5_1<(l0.length:Int):=dX
        obtain ⟨ad114,e114,hx114_0,hx114_1⟩:=cC HR0.out x5_1 p114 q114
        obtain rfl:ad104=ad114:=(by injection e114)
        replace hx114_0:=kT HB hx114_0
        replace hx114_1:=kT HB hx114_1
        replace p114:=eq_true p114
        replace q114:=eq_true q114
        go_wp2_with (first|(go_at_call 87;(with_reducible refine (bO ((aA l0 x5_1).f0) ((aA l0 x5_1).f1) t115 t116 t117 _ A19.out).mono ?_);rintro e w21 ⟨rfl,hb⟩;replace HO_4:=aD (Kd.R_below (bN HO_4) hb);replace HB:=aD (aE (bM HB) hb);(try clear hb);(try clear hk))|((with_reducible refine fL (b:=.append) (xs:=#[.tmp 36,.tmp 42]) rfl ?_);at_builtin;refine Kd.R_append gG (w0:=w) w.heap.size rfl (.tmp 36) (.tmp 42) 65 72 (.agg #[(.int .i64 0),(.int .i64 0),(.int .i64 0)]) 24 rfl Try.underlying65 rW rfl (by decide) (by omega) u4 x4_1 (⟨t115,t116,t117⟩:eV) [.int .i64 t115,.int .i64 t116,.int .i64 t117] (fun _=>True) (fun _=>False) rfl rfl ?aP (fun _ hk=>hk.elim) ?aF ?aO ?aB ?aS ?aL ?_;(case aP=>exact fM _ _ _ (⟨t115,t116,t117⟩:eV));(case aB=>exact (bM HB));(case aF=>exact (fun _ _=>trivial));(case aO=>exact (bN HO_4));(case aS=>exact (aM (bM HB)));(case aL=>have:=LMc20.out;omega);intro v119 w22 ho hb hg hat;rw [← Ny118.out] at ho;replace HB:=aD (hb);have HO120:=aD (ho);clear HO_4;clear ho hb hg hat))
        repeat (go_quiet (first|(go_at_call 87;(with_reducible refine (bO ((aA l0 x5_1).f0) ((aA l0 x5_1).f1) t115 t116 t117 _ A19.out).mono ?_);rintro e w21 ⟨rfl,hb⟩;replace HO_4:=aD (Kd.R_below (bN HO_4) hb);replace HB:=aD (aE (bM HB) hb);(try clear hb);(try clear hk))|((with_reducible refine fL (b:=.append) (xs:=#[.tmp 36,.tmp 42]) rfl ?_);at_builtin;refine Kd.R_append gG (w0:=w) w.heap.size rfl (.tmp 36) (.tmp 42) 65 72 (.agg #[(.int .i64 0),(.int .i64 0),(.int .i64 0)]) 24 rfl Try.underlying65 rW rfl (by decide) (by omega) u4 x4_1 (⟨t115,t116,t117⟩:eV) [.int .i64 t115,.int .i64 t116,.int .i64 t117] (fun _=>True) (fun _=>False) rfl rfl ?aP (fun _ hk=>hk.elim) ?aF ?aO ?aB ?aS ?aL ?_;(case aP=>exact fM _ _ _ (⟨t115,t116,t117⟩:eV));(case aB=>exact (bM HB));(case aF=>exact (fun _ _=>trivial));(case aO=>exact (bN HO_4));(case aS=>exact (aM (bM HB)));(case aL=>have:=LMc20.out;omega);intro v119 w22 ho hb hg hat;rw [← Ny118.out] at ho;replace HB:=aD (hb);have HO120:=aD (ho);clear HO_4;clear ho hb hg hat));try go_wp2_with (first|(go_at_call 87;(with_reducible refine (bO ((aA l0 x5_1).f0) ((aA l0 x5_1).f1) t115 t116 t117 _ A19.out).mono ?_);rintro e w21 ⟨rfl,hb⟩;replace HO_4:=aD (Kd.R_below (bN HO_4) hb);replace HB:=aD (aE (bM HB) hb);(try clear hb);(try clear hk))|((with_reducible refine fL (b:=.append) (xs:=#[.tmp 36,.tmp 42]) rfl ?_);at_builtin;refine Kd.R_append gG (w0:=w) w.heap.size rfl (.tmp 36) (.tmp 42) 65 72 (.agg #[(.int .i64 0),(.int .i64 0),(.int .i64 0)]) 24 rfl Try.underlying65 rW rfl (by decide) (by omega) u4 x4_1 (⟨t115,t116,t117⟩:eV) [.int .i64 t115,.int .i64 t116,.int .i64 t117] (fun _=>True) (fun _=>False) rfl rfl ?aP (fun _ hk=>hk.elim) ?aF ?aO ?aB ?aS ?aL ?_;(case aP=>exact fM _ _ _ (⟨t115,t116,t117⟩:eV));(case aB=>exact (bM HB));(case aF=>exact (fun _ _=>trivial));(case aO=>exact (bN HO_4));(case aS=>exact (aM (bM HB)));(case aL=>have:=LMc20.out;omega);intro v119 w22 ho hb hg hat;rw [← Ny118.out] at ho;replace HB:=aD (hb);have HO120:=aD (ho);clear HO_4;clear ho hb hg hat)))
        go_roundg k2
        case measure=>have:=HK1.out;have:=HK2.out;omega
        case rel=>exact ⟨(y118),(wrap64 (x5_1+1)),eO,H',⟨by have:=HK1.out;have:=HK2.out;omega⟩,⟨bN HO120⟩,⟨bM HB⟩⟩
    ·replace c7:=Bool.eq_false_iff.mpr c7
     subst c7
     rw [if_neg (show ¬ (false=true) by decide)] at H
     obtain ⟨y106,hy106⟩:∃ y_:List (eV),y_=(([]:List (eV))):=⟨_,rfl⟩
     first|(with_reducible replace H:=uU hy106 H)|(with_reducible replace H:=uV hy106 H)|rw [← hy106] at H
     have Ny106:=aD hy106
     clear hy106
     simp only [Option.some.injEq,Prod.mk.injEq] at H
     obtain ⟨rfl,rfl⟩:=H
     have p104:0≤(x5_1:Int):=dX
     have q104:x5_1<(l0.length:Int):=dX
     obtain ⟨ad104,e104,hx104_0,hx104_1⟩:=cC HR0.out x5_1 p104 q104
     cases e104
     replace hx104_0:=kT HB hx104_0
     replace hx104_1:=kT HB hx104_1
     replace p104:=eq_true p104
     replace q104:=eq_true q104
     go_wp2_with (first|(go_at_call 148;(with_reducible refine (fT ((aA l0 x5_1).f0) ((aA l0 x5_1).f1) 20 false _ A6.out).mono ?_);rintro e w23 ⟨rfl,hb⟩;replace HO_4:=aD (Kd.R_below (bN HO_4) hb);replace HB:=aD (aE (bM HB) hb);(try clear hb);(try clear hk))|((with_reducible refine aW (N:=20) rfl ?_);refine Kd.R_lit gG _ 72 ?hg (N:=20) ?hd (xs:=([]:List (eV))) (inner:=[]) (ok:=fun _=>True) (okp:=fun _=>True) ?hr ?hp (fun _ hk=>hk) trivial (Below.refl _ _) (Nat.le_refl _) (by simp) ?_;(case hd=>rfl);(case hg=>rfl);(case hr=>first|(go_simp;done)|(go_simp;rfl));(case hp=>exact (iE.none _ _));intro v107 w24 ho25 hb hg_ hnew_;clear hg_ hnew_;(first|rw [← Ny106.out] at ho25|(simp only [Int.reduceToNat] at ho25;rw [← Ny106.out] at ho25));have HO108:=aD (Kd.R_lower (Kd.R_new' ho25 (Kd.R_lt (bN HO_4))) (aM (bM HB)));replace HO_4:=aD (Kd.R_elder' (bN HO_4) (Kd.R_base ho25) hb);replace HB:=aD (aE (bM HB) hb);clear hb ho25))
     repeat (go_quiet (first|(go_at_call 148;(with_reducible refine (fT ((aA l0 x5_1).f0) ((aA l0 x5_1).f1) 20 false _ A6.out).mono ?_);rintro e w23 ⟨rfl,hb⟩;replace HO_4:=aD (Kd.R_below (bN HO_4) hb);replace HB:=aD (aE (bM HB) hb);(try clear hb);(try clear hk))|((with_reducible refine aW (N:=20) rfl ?_);refine Kd.R_lit gG _ 72 ?hg (N:=20) ?hd (xs:=([]:List (eV))) (inner:=[]) (ok:=fun _=>True) (okp:=fun _=>True) ?hr ?hp (fun _ hk=>hk) trivial (Below.refl _ _) (Nat.le_refl _) (by simp) ?_;(case hd=>rfl);(case hg=>rfl);(case hr=>first|(go_simp;done)|(go_simp;rfl));(case hp=>exact (iE.none _ _));intro v107 w24 ho25 hb hg_ hnew_;clear hg_ hnew_;(first|rw [← Ny106.out] at ho25|(simp only [Int.reduceToNat] at ho25;rw [← Ny106.out] at ho25));have HO108:=aD (Kd.R_lower (Kd.R_new' ho25 (Kd.R_lt (bN HO_4))) (aM (bM HB)));replace HO_4:=aD (Kd.R_elder' (bN HO_4) (Kd.R_base ho25) hb);replace HB:=aD (aE (bM HB) hb);clear hb ho25));try go_wp2_with (first|(go_at_call 148;(with_reducible refine (fT ((aA l0 x5_1).f0) ((aA l0 x5_1).f1) 20 false _ A6.out).mono ?_);rintro e w23 ⟨rfl,hb⟩;replace HO_4:=aD (Kd.R_below (bN HO_4) hb);replace HB:=aD (aE (bM HB) hb);(try clear hb);(try clear hk))|((with_reducible refine aW (N:=20) rfl ?_);refine Kd.R_lit gG _ 72 ?hg (N:=20) ?hd (xs:=([]:List (eV))) (inner:=[]) (ok:=fun _=>True) (okp:=fun _=>True) ?hr ?hp (fun _ hk=>hk) trivial (Below.refl _ _) (Nat.le_refl _) (by simp) ?_;(case hd=>rfl);(case hg=>rfl);(case hr=>first|(go_simp;done)|(go_simp;rfl));(case hp=>exact (iE.none _ _));intro v107 w24 ho25 hb hg_ hnew_;clear hg_ hnew_;(first|rw [← Ny106.out] at ho25|(simp only [Int.reduceToNat] at ho25;rw [← Ny106.out] at ho25));have HO108:=aD (Kd.R_lower (Kd.R_new' ho25 (Kd.R_lt (bN HO_4))) (aM (bM HB)));replace HO_4:=aD (Kd.R_elder' (bN HO_4) (Kd.R_base ho25) hb);replace HB:=aD (aE (bM HB) hb);clear hb ho25)))
     go_ret2
     exact ⟨_,dA,by (with_reducible repeat (first|apply fK|apply gF|apply eQ));exact Kd.R_mono HO108.out (fun _ hk=>trivial),bM HB⟩
   ·simp only [Option.some.injEq,Prod.mk.injEq] at H
    obtain ⟨rfl,rfl⟩:=H
    obtain ⟨Ao26,co26,eo26⟩:=Kd.R_slice HO_4.out
    subst eo26
    go_wp2
    repeat (go_quiet (fail);try go_wp2)
    go_ret2
    exact ⟨_,dA,bN HO_4,bM HB⟩
end Go.Proofs.Ytldcckcljjlglaa.P

namespace Go.Proofs.Ytldcckcljjlglaa.P
open Go.RowKit Go.Proofs.YtldcckcljjlglaaW.PrintWords Go.Proofs.YtldcckcljjlglaaW.PrintLast Go.Proofs.YtldcckcljjlglaaW.PrintMore
attribute [local go_sem] max2_int min2_int max_two min_two max_three min_three max_four min_four
set_option linter.unusedVariables false
set_option linter.unusedSimpArgs false
attribute [local go_sem high] eqA72
/-! ### spec_l26Equal: function 123 -/
def spec_l26Equal.f (k:Nat) (a0_0:Int) (a0_1:Int) (a0_2:Int) (a1_0:Int) (a1_1:Int) (a1_2:Int):Option (Bool):=(spec_CrossOf.f k a0_0 a0_1 a0_2 a1_0 a1_1 a1_2).bind fun bt103=>(some (bt103.1==0&&(bt103.2.1==0&&(bt103.2.2==0))))
set_option maxHeartbeats 8000000 in
set_option maxRecDepth 100000 in
theorem cN (k:Nat) (a0_0:Int) (a0_1:Int) (a0_2:Int) (a1_0:Int) (a1_1:Int) (a1_2:Int) (r:Bool) (w:World) (h:spec_l26Equal.f k a0_0 a0_1 a0_2 a1_0 a1_1 a1_2=some r) :
  Calls Try.prog 123 #[.agg #[.int .i64 a0_0,.int .i64 a0_1,.int .i64 a0_2],.agg #[.int .i64 a1_0,.int .i64 a1_1,.int .i64 a1_2]] w fun e w'=>e=.returned (.bool r)∧Below w.heap.size w w':=by
 have hu72:=Try.underlying72
 have HB:=aD (Below.refl w.heap.size w)
 unfold spec_l26Equal.f at h
 have H:=h
 clear h
 replace H:=fQ H
 obtain ⟨⟨t103,t104,t105⟩,A3,H⟩:=H
 try dsimp only at H
 obtain rfl:=Option.some.inj H
 go_enter Try.func123,Try.ntmps123
 go_wp2_with (first|((with_reducible refine aW (N:=2) rfl ?_);refine bS (N:=2) #[.int .i64 a0_0,.int .i64 a0_1,.int .i64 a0_2] 72 ?_;intro gb101 hg w4 hbox hb;have BK101:=aD (hbox);have GW101:=aD ((cZ HB hg));have GE101:=aD ((cZ HB hg));replace HB:=aD (aE (bM HB) hb);clear hb hbox hg)|((with_reducible refine aW (N:=3) rfl ?_);refine bS (N:=3) #[.int .i64 a1_0,.int .i64 a1_1,.int .i64 a1_2] 72 ?_;intro gb102 hg w5 hbox hb;have BK102:=aD (hbox);have GW102:=aD ((cZ HB hg));have GE102:=aD ((cZ HB hg));replace HB:=aD (aE (bM HB) hb);have NB101_102:=aD ((bW BK101 hg));have NB102_101:=aD ((bX BK101 hg));replace BK101:=aD (aU BK101 hb);clear hb hbox hg;have hnb6:=NB101_102.out;have hnc6:=NB102_101.out;have hcz7_0:=aT BK101 0;have hcz7_1:=aT BK101 1;have hcz7_2:=aT BK101 2;have hfz7_0:=aC BK101.out 0;have hfz7_1:=aC BK101.out 1;have hfz7_2:=aC BK101.out 2;have hcz8_0:=aT BK102 0;have hcz8_1:=aT BK102 1;have hcz8_2:=aT BK102 2;have hfz8_0:=aC BK102.out 0;have hfz8_1:=aC BK102.out 1;have hfz8_2:=aC BK102.out 2)|((with_reducible refine aV (f:=82) rfl ?_);refine bK (some 7) Try.func82 #[.agg #[.int .i64 a0_0,.int .i64 a0_1,.int .i64 a0_2],.agg #[.int .i64 a1_0,.int .i64 a1_1,.int .i64 a1_2]] ?_;(with_reducible refine (aH k a0_0 a0_1 a0_2 a1_0 a1_1 a1_2 t103 t104 t105 _ A3.out).mono ?_);rintro e w9 ⟨rfl,hb⟩;refine ⟨_,rfl,?_⟩;replace BK101:=aD (aU BK101 hb);replace BK102:=aD (aU BK102 hb);replace HB:=aD (aE (bM HB) hb);(try clear hb)))
 go_ret
 exact ⟨dA,bM HB⟩
end Go.Proofs.Ytldcckcljjlglaa.P

namespace Go.Proofs.Ytldcckcljjlglaa.P
open Go.RowKit Go.Proofs.YtldcckcljjlglaaW.PrintWords Go.Proofs.YtldcckcljjlglaaW.PrintLast Go.Proofs.YtldcckcljjlglaaW.PrintMore
set_option linter.unusedSimpArgs false
section
variable {P : Program} {md : Region.Mode} {ops : Array Oper} {Q : Exit → Act → World → Prop} {S : World → Prop}
def CD (P:Program) (ops:Array Oper) (S:World→Prop) (o:Oper) (a:Act) (v:Value):Prop :=
 (Region.wanted o (yielded ops a.tmps)=false∧v=undef) ∨
 (Region.wanted o (yielded ops a.tmps) = true ∧ ∀ w, S w → ((execOp a.eval o).run P w = .ok (.value v) w) ∨
  (∃ f args,(execOp a.eval o).run P w=.ok (.enter f args) w∧Calls P f args w fun e w1=>e=.returned v∧Below w.heap.size w w1))
def nv:Nat→Nat→Value
 | 0,g=>.pointer (some ⟨g,0,none⟩)
 | n+1,g=>.slice (some ⟨g,0,none⟩) n n
def CE (P:Program) (ops:Array Oper) (S:World→Prop) (o:Oper) (a:Act) (cs:Array Value) (t:TypeId×Nat):Prop :=
 Region.wanted o (yielded ops a.tmps)=true∧∀ w,S w→(execOp a.eval o).run P w=.ok (.value (nv t.2 w.heap.size)) (w.alloc (.cells cs t.1 (0,0)))
structure CF (g:Nat) (w w1:World):Prop where
 os:w1.os=w.os
 tape:w1.tape=w.tape
 output:w1.output=w.output
 size:w1.heap.size=w.heap.size
 block:∀ k,k≠g→w1.heap[k]? = w.heap[k]?
theorem CF.trans {g:Nat} {w w1 w2:World} (h:CF g w w1) (h':CF g w1 w2):CF g w w2:=⟨h'.os.trans h.os,h'.tape.trans h.tape,h'.output.trans h.output,h'.size.trans h.size,fun k hk=>(h'.block k hk).trans (h.block k hk)⟩
theorem xA {g:Nat} {w:World} {cs:Array Value} {t:TypeId} (h:w.heap[g]? = some (.cells cs t (0,0))) (j:Nat) (u:Value):CF g w (w.setCell ⟨g,j,none⟩ u)∧(w.setCell ⟨g,j,none⟩ u).heap[g]? = some (.cells (cs.setIfInBounds j u) t (0,0)) :=
 ⟨⟨rfl,rfl,rfl,by simp [World.setCell],fun k hk=>Below.heap_setCell w ⟨g,j,none⟩ u k hk⟩,by simp [World.setCell,Array.getElem?_modify,h]⟩
theorem nU {g:Nat} {w:World} {a b:Value} {t:TypeId} (h:w.heap[g]? = some (.cells #[a,b] t (0,0))) (x y:Value):CF g w ((w.setCell ⟨g,0,none⟩ x).setCell ⟨g,1,none⟩ y)∧((w.setCell ⟨g,0,none⟩ x).setCell ⟨g,1,none⟩ y).heap[g]? = some (.cells #[x,y] t (0,0)):=by
 obtain ⟨m1,h1⟩:=xA h 0 x
 obtain ⟨m2,h2⟩:=xA h1 1 y
 exact ⟨m1.trans m2,h2⟩
theorem gB {g:Nat} {w:World} {a b c:Value} {t:TypeId} (h:w.heap[g]? = some (.cells #[a,b,c] t (0,0))) (x y z:Value):CF g w (((w.setCell ⟨g,0,none⟩ x).setCell ⟨g,1,none⟩ y).setCell ⟨g,2,none⟩ z)∧(((w.setCell ⟨g,0,none⟩ x).setCell ⟨g,1,none⟩ y).setCell ⟨g,2,none⟩ z).heap[g]? = some (.cells #[x,y,z] t (0,0)):=by
 obtain ⟨m1,h1⟩:=xA h 0 x
 obtain ⟨m2,h2⟩:=xA h1 1 y
 obtain ⟨m3,h3⟩:=xA h2 2 z
 exact ⟨(m1.trans m2).trans m3,h3⟩
theorem CF.below {g n:Nat} {w w1:World} (h:CF g w w1) (hn:n≤g):Below n w w1:=⟨h.os,h.tape,h.output,Nat.le_of_eq h.size.symm,fun k hk=>h.block k (by omega)⟩
def wD (P:Program) (ops:Array Oper) (S:World→Prop) (n0:Nat) (o:Oper) (a:Act) (g:Nat) (cs:Array Value) (t:TypeId×Nat) (cs':Array Value):Prop :=
 Region.wanted o (yielded ops a.tmps)=true∧∀ w,S w→w.heap[g]? = some (.cells cs t.1 (0,0))→n0≤g→∃ w1,(execOp a.eval o).run P w=.ok .skip w1∧CF g w w1∧w1.heap[g]? = some (.cells cs' t.1 (0,0))
def mK (o:Oper):Bool:=match o.op with
 | .alloc _=>true
 | .buildSlice _ _ _=>true
 | _=>false
def qD (md : Region.Mode) (ops : Array Oper) (m : Nat) (tb : List (Nat × Nat)) : Bool :=
 Region.noSelect ops&&decide (m≤ops.size)&&(tb.all fun p=>decide (p.1<m)&&decide (p.2<m)&&(match ops[p.2]? with
   | none=>false
   | some o=>o.dst.isNone&&o.after.any fun e=>Region.binds md e&&e.on==p.1)&&tb.all fun q=>!(q.2==p.2)||q.1==p.1)&&(List.range ops.size).all fun i=>match ops[i]? with
  | none=>false
  | some oi=>if i<m then oi.after.all (fun e=>!Region.binds md e||decide (e.on<i))&&(List.range m).all fun j=>match ops[j]? with
    | none=>false
    | some oj=>match oj.dst with
     | none=>true
     | some t=>(j==i||oi.dst != some t)&&(!(oi.looksAt ops).contains t||((!mK oj||tb.contains (j,i))&&oi.after.any fun e=>Region.binds md e&&e.on==j))
   else (List.range m).all fun j=>oi.after.any fun e=>Region.binds md e&&e.on==j
section
variable {m : Nat} {tb : List (Nat × Nat)}
theorem tG (h:qD md ops m tb=true):m≤ops.size:=by
 unfold qD at h
 simp only [Bool.and_eq_true,decide_eq_true_eq] at h
 exact h.1.1.2
theorem lK (h:qD md ops m tb=true):Region.noSelect ops=true:=by
 unfold qD at h
 simp only [Bool.and_eq_true] at h
 exact h.1.1.1
theorem pG (h:qD md ops m tb=true) {j s:Nat} (hp:(j,s) ∈ tb):j<m∧s<m∧(∃ o,ops[s]? = some o∧o.dst=none∧∃ e ∈ o.after,Region.binds md e=true∧e.on=j)∧∀ j',(j',s) ∈ tb→j'=j:=by
 unfold qD at h
 simp only [Bool.and_eq_true] at h
 have h1:=List.all_eq_true.1 h.1.2 _ hp
 simp only [Bool.and_eq_true,decide_eq_true_eq] at h1
 obtain ⟨⟨⟨h2,h3⟩,h4⟩,h5⟩:=h1
 refine ⟨h2,h3,?_,fun j' hj'=>?_⟩
 ·cases ho:ops[s]? with
  | none=>rw [ho] at h4;cases h4
  | some o =>
   simp only [ho,Bool.and_eq_true,Option.isNone_iff_eq_none] at h4
   obtain ⟨e,he,hb⟩:=Array.any_eq_true'.1 h4.2
   simp only [Bool.and_eq_true,beq_iff_eq] at hb
   exact ⟨o,rfl,h4.1,e,he,hb.1,hb.2⟩
 ·have:=List.all_eq_true.1 h5 _ hj'
  simpa using this
theorem lL (h:qD md ops m tb=true) {i:Nat} {oi:Oper} (hm:i<m) (hi:ops[i]? = some oi) :
  (∀ e ∈ oi.after,Region.binds md e=true→e.on<i) ∧
  ∀ j oj t,j<m→ops[j]? = some oj→oj.dst=some t→(j≠i→oi.dst≠some t)∧(t ∈ oi.looksAt ops→(mK oj=false∨(j,i) ∈ tb)∧∃ e ∈ oi.after,Region.binds md e=true∧e.on=j):=by
 unfold qD at h
 simp only [Bool.and_eq_true] at h
 have h1:=List.all_eq_true.1 h.2 i (List.mem_range.2 (Array.getElem?_eq_some_iff.1 hi).1)
 simp only [hi,if_pos hm,Bool.and_eq_true] at h1
 obtain ⟨h3,h4⟩:=h1
 refine ⟨fun e he hb=>?_,fun j oj t hjm hj ht=>?_⟩
 ·have:=Array.all_eq_true_iff_forall_mem.1 h3 e he
  simpa [hb] using this
 ·have h5:=List.all_eq_true.1 h4 j (List.mem_range.2 hjm)
  simp only [hj,ht,Bool.and_eq_true,Bool.or_eq_true,beq_iff_eq,bne_iff_ne,Bool.not_eq_true'] at h5
  refine ⟨fun hne=>?_,fun hmem=>?_⟩
  ·rcases h5.1 with h6|h6
   ·exact absurd h6 hne
   ·exact h6
  ·rcases h5.2 with h6|h6
   ·exact absurd (List.contains_iff_mem.2 hmem) (by simpa using h6)
   ·obtain ⟨e,he,hb⟩:=Array.any_eq_true'.1 h6.2
    simp only [Bool.and_eq_true,beq_iff_eq] at hb
    exact ⟨h6.1.imp id (fun h=>List.contains_iff_mem.1 h),e,he,hb.1,hb.2⟩
theorem zN (h:qD md ops m tb=true) {i:Nat} {oi:Oper} (hm:¬ i<m) (hi:ops[i]? = some oi):∀ j,j<m→∃ e ∈ oi.after,Region.binds md e=true∧e.on=j:=by
 unfold qD at h
 simp only [Bool.and_eq_true] at h
 have h1:=List.all_eq_true.1 h.2 i (List.mem_range.2 (Array.getElem?_eq_some_iff.1 hi).1)
 simp only [hi,if_neg hm,List.all_eq_true,List.mem_range] at h1
 intro j hj
 obtain ⟨e,he,hb⟩:=Array.any_eq_true'.1 (h1 j hj)
 simp only [Bool.and_eq_true,beq_iff_eq] at hb
 exact ⟨e,he,hb.1,hb.2⟩
end
theorem xZ {l:Array Bool} {i:Nat} (h:i ∈ Region.ready md ops l):i<ops.size∧l.getD i true=false∧∀ oi,ops[i]? = some oi→∀ e ∈ oi.after,Region.binds md e=true→l.getD e.on false=true:=by
 unfold Region.ready at h
 rw [List.mem_filter,List.mem_range] at h
 obtain ⟨h1,h2⟩:=h
 simp only [Bool.and_eq_true,Bool.not_eq_true'] at h2
 refine ⟨h1,h2.1,fun oi hoi e he hb=>?_⟩
 have h3:=h2.2
 simp only [hoi,Option.map_some,Option.getD_some] at h3
 have:=Array.all_eq_true_iff_forall_mem.1 h3 e he
 simpa [hb] using this
theorem tX {m:Nat} {tb:List (Nat×Nat)} (h:qD md ops m tb=true) {l:Array Bool} (hl:l.size=ops.size):∀ (i:Nat),i<m→l.getD i true=false→Region.ready md ops l≠[]:=by
 have hle:=tG h
 intro i
 induction i using Nat.strongRecOn with
 | _ i ih =>
  intro hi hu
  by_cases hex:∃ j,j<i∧l.getD j true=false
  ·obtain ⟨j,hj,hju⟩:=hex
   exact ih j hj (by omega) hju
  ·intro hr
   have hoi:ops[i]? = some ops[i]:=Array.getElem?_eq_getElem (by omega)
   have hm:i ∈ Region.ready md ops l:=by
    unfold Region.ready
    rw [List.mem_filter,List.mem_range]
    refine ⟨by omega,?_⟩
    simp only [hu,hoi,Bool.not_false,Bool.true_and,Option.map_some,Option.getD_some]
    rw [Array.all_eq_true_iff_forall_mem]
    intro e he
    cases hb:Region.binds md e with
    | false=>rfl
    | true =>
     have hlt:=(lL h hi hoi).1 e he hb
     have:¬ l.getD e.on true=false:=fun hf=>hex ⟨e.on,hlt,hf⟩
     have hsz:e.on<l.size:=by omega
     simp only [Array.getD_eq_getD_getElem?,Array.getElem?_eq_getElem hsz,Option.getD_some] at this ⊢
     simpa using this
   rw [hr] at hm
   cases hm
def CG (l:Array Bool) (m:Nat):Nat:=(l.toList.take m).countP (fun b=>!b)
theorem CI {l:Array Bool} {i m:Nat} (him:i<m) (hi:i<l.size) (hu:l.getD i true=false):CG (l.setIfInBounds i true) m+1=CG l m:=by
 have hli:l[i]=false:=by
  simpa [Array.getD_eq_getD_getElem?,Array.getElem?_eq_getElem hi] using hu
 unfold CG
 have h0:i<(l.toList.take m).length:=by rw [List.length_take];simp;omega
 have e1:l.toList.take m=(l.toList.take m).take i++(l.toList.take m)[i]::(l.toList.take m).drop (i+1):=by
  rw [← List.drop_eq_getElem_cons h0,List.take_append_drop]
 have e2:(l.setIfInBounds i true).toList.take m=(l.toList.take m).take i++true::(l.toList.take m).drop (i+1):=by
  rw [Array.toList_setIfInBounds,List.take_set,List.set_eq_take_append_cons_drop,if_pos h0]
 have hli2:(l.toList.take m)[i]=false:=by simpa using hli
 rw [e2]
 conv=>rhs;rw [e1]
 rw [hli2,List.countP_append,List.countP_append,List.countP_cons,List.countP_cons]
 simp only [Bool.not_true,Bool.not_false,Bool.false_eq_true,if_false,if_true]
 omega
theorem AZ {l:Array Bool} {m:Nat} (h:CG l m=0) {i:Nat} (him:i<m) (hi:i<l.size):l.getD i false=true:=by
 unfold CG at h
 rw [List.countP_eq_zero] at h
 have:=h l[i] (by
  rw [List.mem_take_iff_getElem]
  exact ⟨i,by simp;omega,by simp⟩)
 simpa [Array.getD_eq_getD_getElem?,Array.getElem?_eq_getElem hi] using this
theorem CJ {l:Array Bool} {m:Nat} (h:CG l m≠0):∃ i,i<m∧i<l.size∧l.getD i true=false:=by
 unfold CG at h
 obtain ⟨b,hb,hb2⟩:=List.countP_pos_iff.1 (Nat.pos_of_ne_zero h)
 rw [List.mem_take_iff_getElem] at hb
 obtain ⟨i,hi,rfl⟩:=hb
 have hil:i<l.size:=by simp at hi;omega
 refine ⟨i,by omega,hil,?_⟩
 simpa [Array.getD_eq_getD_getElem?,Array.getElem?_eq_getElem hil] using hb2
theorem lM {o:Oper} {a b:Act} (hs:∀ cs b,o.op≠.select cs b) (h:∀ t,t ∈ o.looksAt ops→a.tmps[t]? = b.tmps[t]?) :
  execOp a.eval o=execOp b.eval o∧Region.wanted o (yielded ops a.tmps)=Region.wanted o (yielded ops b.tmps):=by
 constructor
 ·refine execOp_congr o hs fun x hx=>?_
  cases x with
  | tmp t =>
   have:=h t (List.mem_append_left _ (List.mem_filterMap.2 ⟨.tmp t,by simpa using hx,rfl⟩))
   simp only [Act.eval,Array.getD_eq_getD_getElem?,this]
  | _=>rfl
 ·unfold Region.wanted
  cases hg:o.guard with
  | none=>rfl
  | some gw =>
   obtain ⟨g,want⟩:=gw
   have hy:yielded ops a.tmps g=yielded ops b.tmps g:=by
    unfold yielded
    cases ht:(ops[g]?).bind (·.dst) with
    | none=>rfl
    | some t =>
     have:=h t (by simp [Oper.looksAt,hg,ht])
     simp [this]
   simp only [hy]
inductive vA where
 | det (v:Value)
 | new (cs:Array Value) (t:TypeId×Nat) (st:Option (Nat×Array Value))
 | sto (j:Nat) (cs:Array Value)
def gQ (G:Nat→Nat) (i:Nat):vA→Value
 | .det v=>v
 | .new _ t _=>nv t.2 (G i)
 | .sto _ _=>undef
def kU (l:Array Bool) (cs:Array Value):Option (Nat×Array Value)→Array Value
 | some (s,c)=>if l.getD s false=true then c else cs
 | none=>cs
def cH (cs:Array Value):Option (Nat×Array Value)→Array Value
 | some (_,c)=>c
 | none=>cs
def fN (ops:Array Oper) (vals:Nat→Value) (a:Act) (n:Nat):Act:=(List.range n).foldl (fun a i=>a.put ((ops[i]?).bind (·.dst)) (vals i)) a
theorem iL {m:Nat} {tb:List (Nat×Nat)} (hc:qD md ops m tb=true) (vals:Nat→Value) (a:Act):∀ (n:Nat),n≤m→(fN ops vals a n).tmps.size=a.tmps.size∧(fN ops vals a n).defers=a.defers ∧
  (∀ t,(∀ i oi,i<m→ops[i]? = some oi→oi.dst=some t→n≤i)→(fN ops vals a n).tmps[t]? = a.tmps[t]?) ∧
  (∀ i oi d,i<n→ops[i]? = some oi→oi.dst=some d→(fN ops vals a n).tmps[d]? = if d<a.tmps.size then some (vals i) else none):=by
 have hle:=tG hc
 intro n
 induction n with
 | zero=>intro _;exact ⟨rfl,rfl,fun _ _=>rfl,fun i _ _ h=>by omega⟩
 | succ n ih =>
  intro hn
  obtain ⟨h1,h2,h3,h4⟩:=ih (by omega)
  have hon:ops[n]? = some ops[n]:=Array.getElem?_eq_getElem (by omega)
  generalize ops[n]=on at hon
  obtain ⟨_,hlk⟩:=lL hc (show n<m by omega) hon
  have e:fN ops vals a (n+1)=(fN ops vals a n).put on.dst (vals n):=by
   unfold fN
   rw [List.range_succ,List.foldl_append,List.foldl_cons,List.foldl_nil,hon,Option.bind_some]
  rw [e]
  generalize fN ops vals a n=b at h1 h2 h3 h4
  cases hdn:on.dst with
  | none =>
   refine ⟨h1,h2,fun t ht=>h3 t fun i oi him hoi hd=>by have:=ht i oi him hoi hd;omega,fun i oi d hi hoi hd=>?_⟩
   by_cases hin:i=n
   ·subst hin
    rw [hon] at hoi
    obtain rfl:=Option.some.inj hoi
    rw [hdn] at hd
    cases hd
   ·exact h4 i oi d (by omega) hoi hd
  | some dn =>
   refine ⟨by simp [Act.put,h1],by simp [Act.put,h2],fun t ht=>?_,fun i oi d hi hoi hd=>?_⟩
   ·have hne:dn≠t:=by
     rintro rfl
     have:=ht n on (by omega) hon hdn
     omega
    simp only [Act.put]
    rw [Array.getElem?_setIfInBounds_ne hne]
    exact h3 t fun i oi him hoi hd=>by have:=ht i oi him hoi hd;omega
   ·simp only [Act.put]
    by_cases hin:i=n
    ·subst hin
     rw [hon] at hoi
     obtain rfl:=Option.some.inj hoi
     rw [hdn] at hd
     obtain rfl:=Option.some.inj hd
     rw [Array.getElem?_setIfInBounds_self,h1]
    ·have hne:dn≠d:=fun he=>(hlk i oi d (by omega) hoi hd).1 hin (by rw [hdn,he])
     rw [Array.getElem?_setIfInBounds_ne hne]
     exact h4 i oi d (by omega) hoi hd
structure EH (md:Region.Mode) (ops:Array Oper) (m:Nat) (ks:Nat→vA) (n0:Nat) (l:Array Bool) (G:Nat→Nat) (aF a:Act) (w:World):Prop where
 size:a.tmps.size=aF.tmps.size
 defers:a.defers=aF.defers
 slot:∀ t,(∀ i oi,i<m→ops[i]? = some oi→oi.dst=some t→l.getD i false=true)→a.tmps[t]? = aF.tmps[t]?
 late:∀ i,m≤i→l.getD i false=false
 closed:∀ i oi,ops[i]? = some oi→l.getD i false=true→∀ e ∈ oi.after,Region.binds md e=true→l.getD e.on false=true
 block:∀ i cs t st,i<m→l.getD i false=true→ks i=.new cs t st→w.heap[G i]? = some (.cells (kU l cs st) t.1 (0,0))∧n0≤G i
 apart:∀ i j cs t st cs' t' st',i<m→j<m→i≠j→l.getD i false=true→l.getD j false=true→ks i=.new cs t st→ks j=.new cs' t' st'→G i≠G j
structure AM (P:Program) (ops:Array Oper) (S:World→Prop) (m:Nat) (tb:List (Nat×Nat)) (a0:Act) (ks:Nat→vA) (n0:Nat):Prop where
 det:∀ (G:Nat→Nat) i oi v,i<m→ops[i]? = some oi→ks i=.det v→CD P ops S oi (fN ops (fun i=>gQ G i (ks i)) a0 m) v
 new:∀ (G:Nat→Nat) i oi cs t st,i<m→ops[i]? = some oi→ks i=.new cs t st→oi.dst.isSome=true∧CE P ops S oi (fN ops (fun i=>gQ G i (ks i)) a0 m) cs t∧(∀ s c,st=some (s,c)→(i,s) ∈ tb)
 sto:∀ (G:Nat→Nat) i oi j c,i<m→ops[i]? = some oi→ks i=.sto j c→oi.dst=none∧(j,i) ∈ tb∧∃ cs t,ks j=.new cs t (some (i,c))∧wD P ops S n0 oi (fN ops (fun i=>gQ G i (ks i)) a0 m) (G j) cs t c
 all:∀ i oi,i<m→ops[i]? = some oi→oi.dst=none→∃ j c,ks i=.sto j c
theorem tY {n n':Nat} {w w1:World} (h:Below n w w1) (hn:n'≤n):Below n' w w1:=⟨h.os,h.tape,h.output,h.size,fun k hk=>h.block k (by omega)⟩
theorem DE {m : Nat} {tb : List (Nat × Nat)} (hc : qD md ops m tb = true) (a0 : Act) (ks : Nat → vA) (n0 : Nat) (hS : ∀ w w1, S w → Below n0 w w1 → S w1) (hn0 : ∀ w, S w → n0 ≤ w.heap.size) (hK : AM P ops S m tb a0 ks n0)
  (hend : ∀ (G : Nat → Nat) w, S w → (∀ i cs t st, i < m → ks i = .new cs t st → w.heap[G i]? = some (.cells (cH cs st) t.1 (0, 0)) ∧ n0 ≤ G i) → (∀ i j cs t st cs' t' st', i < m → j < m → i ≠ j → ks i = .new cs t st → ks j = .new cs' t' st' → G i ≠ G j) →
   wpAny P md ops Q (ops.size-m) (bm ops.size (2 ^ m-1)) (fN ops (fun i=>gQ G i (ks i)) a0 m) w) :
  ∀ (p:Nat) (l:Array Bool) (G:Nat→Nat) (a:Act) (w:World),l.size=ops.size→CG l m=p→EH md ops m ks n0 l G (fN ops (fun i=>gQ G i (ks i)) a0 m) a w→S w→wpAny P md ops Q (p+(ops.size-m)) l a w:=by
 have hle:=tG hc
 have hstm:∀ i cs t s c,i<m→ks i=.new cs t (some (s,c))→s<m∧ks s=.sto i c:=by
  intro i cs t s c hi hk
  obtain ⟨_,_,htb⟩:=hK.new (fun _=>0) i ops[i] cs t _ hi (Array.getElem?_eq_getElem (by omega)) hk
  obtain ⟨_,hs,⟨o,ho,hdn,_⟩,hu⟩:=pG hc (htb s c rfl)
  obtain ⟨j,c',hks⟩:=hK.all s o hs ho hdn
  obtain ⟨_,hj,cs2,t2,hkj,_⟩:=hK.sto (fun _=>0) s o j c' hs ho hks
  obtain rfl:=hu j hj
  rw [hk] at hkj
  injection hkj with _ _ h3
  injection h3 with h3
  injection h3 with _ h4
  subst h4
  exact ⟨hs,hks⟩
 intro p
 induction p with
 | zero =>
  intro l G a w hsz hu hI hSw
  have hall:∀ i,i<m→l.getD i false=true:=fun i hi=>AZ hu hi (by omega)
  have hl:l=bm ops.size (2 ^ m-1):=by
   refine Array.ext_getElem? fun i=>?_
   unfold bm
   have e:((List.range ops.size).map fun i=>(2 ^ m-1).testBit i).toArray[i]? = ((List.range ops.size).map fun i=>(2 ^ m-1).testBit i)[i]?:=List.getElem?_toArray
   rw [e,List.getElem?_map]
   by_cases hi:i<ops.size
   ·rw [List.getElem?_range hi,Option.map_some,Nat.testBit_two_pow_sub_one,Array.getElem?_eq_getElem (by omega)]
    congr 1
    by_cases him:i<m
    ·have:=hall i him
     simp only [Array.getD_eq_getD_getElem?,Array.getElem?_eq_getElem (show i<l.size by omega),Option.getD_some] at this
     rw [this];simp [him]
    ·have:=hI.late i (by omega)
     simp only [Array.getD_eq_getD_getElem?,Array.getElem?_eq_getElem (show i<l.size by omega),Option.getD_some] at this
     rw [this];simp [him]
   ·rw [Array.getElem?_eq_none (by omega),List.getElem?_eq_none (by simp;omega)];rfl
  have ha:a=fN ops (fun i=>gQ G i (ks i)) a0 m:=by
   have h1:=hI.size
   have h2:=hI.defers
   have h3:=hI.slot
   generalize fN ops (fun i=>gQ G i (ks i)) a0 m=aF at h1 h2 h3
   cases a with|mk at_ ad_=>cases aF with|mk bt_ bd_ =>
   simp only at h1 h2 h3
   subst h2
   congr 1
   exact Array.ext_getElem? fun t=>h3 t fun i oi him hi _=>hall i him
  rw [Nat.zero_add]
  have hcont:∀ i cs t st,i<m→ks i=.new cs t st→kU l cs st=cH cs st:=by
   intro i cs t st hi hk
   cases st with
   | none=>rfl
   | some sc =>
    obtain ⟨s,c⟩:=sc
    unfold kU cH
    simp only
    rw [if_pos (hall s (hstm i cs t s c hi hk).1)]
  have:=hend G w hSw (fun i cs t st him hk=>by have h:=hI.block i cs t st him (hall i him) hk;rwa [hcont i cs t st him hk] at h) (fun i j cs t st cs' t' st' hi hj hne hci hdj=>hI.apart i j cs t st cs' t' st' hi hj hne (hall i hi) (hall j hj) hci hdj)
  rw [hl,ha]
  exact this
 | succ p ih =>
  intro l G a w hsz hu hI hSw
  obtain ⟨i0,hi0m,hi0,hi0u⟩:=CJ (l:=l) (m:=m) (by omega)
  rw [show p+1+(ops.size-m)=p+(ops.size-m)+1 by omega]
  constructor
  ·intro hr
   exact absurd hr (tX hc hsz i0 hi0m hi0u)
  ·intro i hi
   obtain ⟨h1,h2,h3⟩:=xZ hi
   have hoi:ops[i]? = some ops[i]:=Array.getElem?_eq_getElem h1
   generalize ops[i]=oi at hoi
   have hil:l.getD i false=false:=by
    simpa [Array.getD_eq_getD_getElem?,Array.getElem?_eq_getElem (show i<l.size by omega)] using h2
   have him:i<m:=by
    refine Classical.byContradiction fun him=>?_
    obtain ⟨e,he,hb,hon⟩:=zN hc him hoi i0 hi0m
    have:=h3 oi hoi e he hb
    rw [hon] at this
    simp only [Array.getD_eq_getD_getElem?,Array.getElem?_eq_getElem hi0,Option.getD_some] at this hi0u
    rw [this] at hi0u
    cases hi0u
   obtain ⟨_,hlook⟩:=lL hc him hoi
   have hsee:∀ t,t ∈ oi.looksAt ops→a.tmps[t]? = (fN ops (fun i=>gQ G i (ks i)) a0 m).tmps[t]?:=by
    intro t ht
    refine hI.slot t fun j oj hjm hj hjt=>?_
    obtain ⟨_,e,he,hb,hon⟩:=(hlook j oj t hjm hj hjt).2 ht
    rw [← hon]
    exact h3 oi hoi e he hb
   obtain ⟨hex,hwa⟩:=lM (fun cs b=>Region.noSelect_spec (lK hc) i oi cs b hoi) hsee
   have hnl:∀ j,(l.setIfInBounds i true).getD j false=true→j=i∨l.getD j false=true:=by
    intro j hj
    by_cases hji:j=i
    ·exact .inl hji
    ·right
     simpa [Array.getD_eq_getD_getElem?,Array.getElem?_setIfInBounds,Ne.symm hji] using hj
   have hln:∀ j,l.getD j false=true→(l.setIfInBounds i true).getD j false=true:=by
    intro j hj
    by_cases hji:i=j
    ·subst hji
     simp [Array.getD_eq_getD_getElem?,Array.getElem?_setIfInBounds,show i<l.size by omega]
    ·simpa [Array.getD_eq_getD_getElem?,Array.getElem?_setIfInBounds,hji] using hj
   have hlate:∀ j,m≤j→(l.setIfInBounds i true).getD j false=false:=by
    intro j hj
    have:=hI.late j hj
    have hne:i≠j:=by omega
    simpa [Array.getD_eq_getD_getElem?,Array.getElem?_setIfInBounds,hne] using this
   have hclosed:∀ j oj,ops[j]? = some oj→(l.setIfInBounds i true).getD j false=true→∀ e ∈ oj.after,Region.binds md e=true→(l.setIfInBounds i true).getD e.on false=true:=by
    intro j oj hoj hj e he hb
    rcases hnl j hj with rfl|h
    ·rw [hoi] at hoj
     obtain rfl:=Option.some.inj hoj
     exact hln _ (h3 oi hoi e he hb)
    ·exact hln _ (hI.closed j oj hoj h e he hb)
   have hlt:∀ j cs t st,j<m→l.getD j false=true→ks j=.new cs t st→G j<w.heap.size:=fun j cs t st hj hlj hkj =>
    (Array.getElem?_eq_some_iff.1 (hI.block j cs t st hj hlj hkj).1).1

   have hnext : ∀ (H : Nat → Nat) w1, (∀ j, j ≠ i → H j = G j) → S w1 →
     (∀ j cs t st,j<m→j≠i→l.getD j false=true→ks j=.new cs t st→w1.heap[G j]? = some (.cells (kU (l.setIfInBounds i true) cs st) t.1 (0,0))) →
     (∀ cs t st,ks i=.new cs t st→w1.heap[H i]? = some (.cells (kU (l.setIfInBounds i true) cs st) t.1 (0,0))∧n0≤H i∧w.heap.size≤H i) →
     wpAny P md ops Q (p+(ops.size-m)) (l.setIfInBounds i true) (a.put oi.dst (gQ H i (ks i))) w1:=by
    intro H w1 hH hS1 hk hb
    have sG:=iL hc (fun i=>gQ G i (ks i)) a0 m (Nat.le_refl m)
    have sH:=iL hc (fun i=>gQ H i (ks i)) a0 m (Nat.le_refl m)
    have hps:(a.put oi.dst (gQ H i (ks i))).tmps.size=a.tmps.size∧(a.put oi.dst (gQ H i (ks i))).defers=a.defers:=by
     cases oi.dst <;> simp [Act.put]
    refine ih _ H _ _ (by simpa using hsz) (by have:=CI (l:=l) him (by omega) h2;omega) ?_ hS1
    refine ⟨by rw [hps.1,hI.size,sG.1,sH.1],by rw [hps.2,hI.defers,sG.2.1,sH.2.1],fun t ht=>?_,hlate,hclosed,fun j cs t st hj hlj hkj=>?_,fun j j' cs t st cs' t' st' hj hj' hne hlj hlj' hc1 hd1=>?_⟩
    ·by_cases htd:oi.dst=some t
     ·rw [htd]
      simp only [Act.put]
      rw [Array.getElem?_setIfInBounds_self,sH.2.2.2 i oi t him hoi htd,hI.size,sG.1]
     ·have e1:(a.put oi.dst (gQ H i (ks i))).tmps[t]? = a.tmps[t]?:=by
       cases hdd:oi.dst with
       | none=>rfl
       | some d =>
        simp only [Act.put]
        exact Array.getElem?_setIfInBounds_ne fun e=>htd (by rw [hdd,e])
      have hall:∀ j oj,j<m→ops[j]? = some oj→oj.dst=some t→l.getD j false=true:=by
       intro j oj hj hoj hdj
       rcases hnl j (ht j oj hj hoj hdj) with rfl|h
       ·rw [hoi] at hoj
        obtain rfl:=Option.some.inj hoj
        exact absurd hdj htd
       ·exact h
      rw [e1,hI.slot t hall]
      by_cases hex2:∃ j oj,j<m∧ops[j]? = some oj∧oj.dst=some t
      ·obtain ⟨j,oj,hj,hoj,hdj⟩:=hex2
       have hji:j≠i:=by
        rintro rfl
        rw [hoi] at hoj
        obtain rfl:=Option.some.inj hoj
        exact htd hdj
       rw [sG.2.2.2 j oj t hj hoj hdj,sH.2.2.2 j oj t hj hoj hdj]
       have:gQ G j (ks j)=gQ H j (ks j):=by
        unfold gQ
        rw [hH j hji]
       simp only [this]
      ·have hno:∀ j oj,j<m→ops[j]? = some oj→oj.dst=some t→m≤j:=fun j oj hj hoj hdj=>absurd ⟨j,oj,hj,hoj,hdj⟩ hex2
       rw [sG.2.2.1 t hno,sH.2.2.1 t hno]
    ·by_cases hji:j=i
     ·subst hji
      exact ⟨(hb cs t st hkj).1,(hb cs t st hkj).2.1⟩
     ·have h:l.getD j false=true:=(hnl j hlj).resolve_left hji
      rw [hH j hji]
      exact ⟨hk j cs t st hj hji h hkj,(hI.block j cs t st hj h hkj).2⟩
    ·by_cases hji:j=i
     ·subst hji
      have hj'i:j'≠j:=fun e=>hne e.symm
      have hl':l.getD j' false=true:=(hnl j' hlj').resolve_left hj'i
      rw [hH j' hj'i]
      have h5:=(hb cs t st hc1).2.2
      have h6:=hlt j' cs' t' st' hj' hl' hd1
      omega
     ·have hl1:l.getD j false=true:=(hnl j hlj).resolve_left hji
      by_cases hj'i:j'=i
      ·subst hj'i
       rw [hH j hji]
       have h5:=(hb cs' t' st' hd1).2.2
       have h6:=hlt j cs t st hj hl1 hc1
       omega
      ·have hl2:l.getD j' false=true:=(hnl j' hlj').resolve_left hj'i
       rw [hH j hji,hH j' hj'i]
       exact hI.apart j j' cs t st cs' t' st' hj hj' hne hl1 hl2 hc1 hd1

   have hsame:∀ j cs t st,j<m→ks j=.new cs t st→(∀ j' c,ks i=.sto j' c→j'≠j)→kU (l.setIfInBounds i true) cs st=kU l cs st:=by
    intro j cs t st hj hkj hno
    cases st with
    | none=>rfl
    | some sc =>
     obtain ⟨s,c⟩:=sc
     have hsi:s≠i:=by
      rintro rfl
      exact hno j c (hstm j cs t s c hj hkj).2 rfl
     unfold kU
     simp only
     have:(l.setIfInBounds i true).getD s false=l.getD s false:=by
      simp [Array.getD_eq_getD_getElem?,Array.getElem?_setIfInBounds,Ne.symm hsi]
     rw [this]
   have hkeep:∀ w1:World,(∀ j',¬ ∃ c,ks i=.sto j' c)→(∀ k,k<w.heap.size→w1.heap[k]? = w.heap[k]?)→∀ j cs t st,j<m→j≠i→l.getD j false=true→ks j=.new cs t st→w1.heap[G j]? = some (.cells (kU (l.setIfInBounds i true) cs st) t.1 (0,0)):=by
    intro w1 hno hk j cs t st hj _ hlj hkj
    rw [hk _ (hlt j cs t st hj hlj hkj),hsame j cs t st hj hkj (fun j' c hh=>absurd ⟨c,hh⟩ (hno j'))]
    exact (hI.block j cs t st hj hlj hkj).1
   unfold Go.wpOp
   simp only [hoi]
   cases hk:ks i with
   | det v =>
    have hno:∀ (w1:World) cs t st,ks i=.new cs t st→w1.heap[G i]? = some (.cells (kU (l.setIfInBounds i true) cs st) t.1 (0,0))∧n0≤G i∧w.heap.size≤G i:=fun _ cs t st h=>by rw [hk] at h;cases h
    have hnos:∀ j',¬ ∃ c,ks i=.sto j' c:=fun j' ⟨c,h⟩=>by rw [hk] at h;cases h
    have hv:gQ G i (ks i)=v:=by rw [hk];rfl
    rcases hK.det G i oi v him hoi hk with ⟨hw,hv0⟩|⟨hw,hrun⟩
    ·rw [hwa,hw]
     simp only [Bool.false_eq_true,if_false]
     have:=hnext G w (fun _ _=>rfl) hSw (hkeep w hnos fun _ _=>rfl) (hno w)
     rw [hv,hv0] at this
     exact this
    ·rw [hwa,hw]
     simp only [if_true]
     left
     unfold Oper.wp
     rw [hex]
     rcases hrun w hSw with hr|⟨f,args,hr,hcall⟩
     ·rw [hr,Oper.upon_value]
      have:=hnext G w (fun _ _=>rfl) hSw (hkeep w hnos fun _ _=>rfl) (hno w)
      rw [hv] at this
      exact this
     ·rw [hr,Oper.upon_enter]
      refine hcall.mono fun e w1 ⟨he,hb1⟩=>?_
      subst he
      have:=hnext G w1 (fun _ _=>rfl) (hS w w1 hSw (tY hb1 (hn0 w hSw))) (hkeep w1 hnos fun k hk=>hb1.block k hk) (hno w1)
      rw [hv] at this
      exact this
   | new cs t st =>
    have hnos:∀ j',¬ ∃ c,ks i=.sto j' c:=fun j' ⟨c,h⟩=>by rw [hk] at h;cases h
    obtain ⟨_,⟨hw,hrun⟩,_⟩:=hK.new G i oi cs t st him hoi hk
    rw [hwa,hw]
    simp only [if_true]
    left
    unfold Oper.wp
    rw [hex,hrun w hSw,Oper.upon_value]
    have hbel:Below w.heap.size w (w.alloc (.cells cs t.1 (0,0))):=fH (Below.refl _ _) _
    have hcont:kU (l.setIfInBounds i true) cs st=cs:=by
     rw [hsame i cs t st him hk (fun j' c hh=>absurd ⟨c,hh⟩ (hnos j'))]
     cases st with
     | none=>rfl
     | some sc =>
      obtain ⟨s,c⟩:=sc
      obtain ⟨hs,hks⟩:=hstm i cs t s c him hk
      obtain ⟨_,_,htb⟩:=hK.new G i oi cs t _ him hoi hk
      obtain ⟨_,_,⟨o,ho,_,e,he,hb,hon⟩,_⟩:=pG hc (htb s c rfl)
      have:l.getD s false=false:=by
       cases hls:l.getD s false with
       | false=>rfl
       | true =>
        have:=hI.closed s o ho hls e he hb
        rw [hon,hil] at this
        cases this
      unfold kU
      simp only
      rw [this,if_neg (by decide)]
    have:=hnext (fun j=>if j=i then w.heap.size else G j) (w.alloc (.cells cs t.1 (0,0))) (fun j hj=>if_neg hj) (hS w _ hSw (tY hbel (hn0 w hSw))) (hkeep _ hnos fun k hk=>hbel.block k hk) (fun cs' t' st' hk'=>by
     rw [hk] at hk'
     injection hk' with e1 e2 e3
     subst e1
     subst e2
     subst e3
     simp only [if_true]
     rw [hcont]
     exact ⟨vS w _,hn0 w hSw,Nat.le_refl _⟩)
    rw [hk] at this
    simpa [gQ] using this
   | sto j c =>
    obtain ⟨hdn,hjtb,cs,t,hkj,hw,hrun⟩:=hK.sto G i oi j c him hoi hk
    obtain ⟨hjm,_,⟨o',ho',_,e,he,hb,hon⟩,_⟩:=pG hc hjtb
    rw [hoi] at ho'
    obtain rfl:=Option.some.inj ho'
    have hlj:l.getD j false=true:=by
     rw [← hon]
     exact h3 oi hoi e he hb
    have hbl:=hI.block j cs t _ hjm hlj hkj
    have hcl:kU l cs (some (i,c))=cs:=by
     unfold kU
     simp only
     rw [hil,if_neg (by decide)]
    rw [hcl] at hbl
    obtain ⟨w1,hr,hmut,hc1⟩:=hrun w hSw hbl.1 hbl.2
    rw [hwa,hw]
    simp only [if_true]
    left
    unfold Oper.wp
    rw [hex,hr,Oper.upon_skip,hdn]
    have:=hnext G w1 (fun _ _=>rfl) (hS w w1 hSw (hmut.below hbl.2)) (fun j' cs' t' st' hj' _ hlj' hkj'=>?_) (fun cs' t' st' hk'=>by rw [hk] at hk';cases hk')
    ·rw [hdn] at this
     exact this
    ·by_cases hjj:j'=j
     ·subst hjj
      rw [hkj] at hkj'
      injection hkj' with e1 e2 e3
      subst e1
      subst e2
      subst e3
      rw [hc1]
      have:(l.setIfInBounds i true).getD i false=true:=by
       simp [Array.getD_eq_getD_getElem?,Array.getElem?_setIfInBounds,show i<l.size by omega]
      unfold kU
      simp only
      rw [if_pos this]
     ·have hne:=hI.apart j' j cs' t' st' cs t _ hj' hjm hjj hlj' hlj hkj' hkj
      rw [hmut.block _ hne,hsame j' cs' t' st' hj' hkj' (fun j2 c2 hh=>by
       rw [hk] at hh
       injection hh with e1
       subst e1
       exact fun e=>hjj e.symm)]
      exact (hI.block j' cs' t' st' hj' hlj' hkj').1
/-! ### the walk -/
structure tZ where
 j:Nat
 N:Tmp
 cs:Array Value
 t:TypeId×Nat
 st:Option (Nat×Array Value)
def vB (K:Act→World→Prop) (n0:Nat):List tZ→List Nat→Act→World→Prop
 | [],_,a,w=>K a w
 | p::ps,av,a,w=>match p.t.2 with
  | 0=>∀ g,g ∉ av→w.heap[g]? = some (.cells (cH p.cs p.st) p.t.1 (0,0))→n0≤g→vB K n0 ps (g::av) (a.put (some p.N) (.pointer (some ⟨g,0,none⟩))) w
  | n+1=>∀ g,g ∉ av→w.heap[g]? = some (.cells (cH p.cs p.st) p.t.1 (0,0))→n0≤g→vB K n0 ps (g::av) (a.put (some p.N) (.slice (some ⟨g,0,none⟩) n n)) w
theorem zO {K:Act→World→Prop} {n0:Nat} {p:tZ} {ps:List tZ} {av:List Nat} {a:Act} {w:World} (h:vB K n0 (p::ps) av a w) (g:Nat) (h1:g ∉ av) (h2:w.heap[g]? = some (.cells (cH p.cs p.st) p.t.1 (0,0))) (h3:n0≤g):vB K n0 ps (g::av) (a.put (some p.N) (nv p.t.2 g)) w:=by
 unfold vB at h
 obtain ⟨j,N,cs,⟨t,n⟩,st⟩:=p
 cases n with
 | zero=>exact h g h1 h2 h3
 | succ n=>exact h g h1 h2 h3
def tH (P:Program) (ops:Array Oper) (S:World→Prop) (K:Act→World→Prop) (n0:Nat) (tb:List (Nat×Nat)):List Oper→Nat→Act→List tZ→Prop
 | [],_,a,ps=>∀ w,S w→vB K n0 ps [] a w
 | o::os,off,a,ps=>(∃ v,o.dst.isSome=true∧mK o=false∧CD P ops S o a v∧tH P ops S K n0 tb os (off+1) (a.put o.dst v) ps) ∨
  (∃ N cs t st,o.dst=some N∧mK o=true∧CE P ops S o a cs t∧(∀ s c,st=some (s,c)→(off,s) ∈ tb)∧tH P ops S K n0 tb os (off+1) a (ps++[⟨off,N,cs,t,st⟩])) ∨
  (∃ p c,p ∈ ps∧p.st=some (off,c)∧o.dst=none∧(p.j,off) ∈ tb∧(∀ g,wD P ops S n0 o (a.put (some p.N) (nv p.t.2 g)) g p.cs p.t c)∧tH P ops S K n0 tb os (off+1) a ps)
def iT (a:Act) (p:Oper×vA):Act:=match p.2 with
 | .det v=>a.put p.1.dst v
 | _=>a
def lN:Nat→List (Oper×vA)→List tZ
 | _,[]=>[]
 | off,p::L=>(match p.2,p.1.dst with
  | .new cs t st,some N=>[⟨off,N,cs,t,st⟩]
  | _,_=>[])++lN (off+1) L
theorem xH {K:Act→World→Prop} {n0:Nat} {tb:List (Nat×Nat)} (os:List Oper):∀ (off:Nat) (a:Act) (ps:List tZ),tH P ops S K n0 tb os off a ps→∃ ks:List vA,ks.length=os.length ∧
  (∀ k o v,os[k]? = some o→ks[k]? = some (.det v)→o.dst.isSome=true∧mK o=false∧CD P ops S o (((os.zip ks).take k).foldl iT a) v) ∧
  (∀ k o cs t st,os[k]? = some o→ks[k]? = some (.new cs t st)→o.dst.isSome=true∧mK o=true∧CE P ops S o (((os.zip ks).take k).foldl iT a) cs t∧∀ s c,st=some (s,c)→(off+k,s) ∈ tb) ∧
  (∀ k o j c, os[k]? = some o → ks[k]? = some (.sto j c) → o.dst = none ∧ (j, off + k) ∈ tb ∧ ∃ N cs t, ((⟨j, N, cs, t, some (off + k, c)⟩ : tZ) ∈ ps ∨ ∃ k' o', off + k' = j ∧ os[k']? = some o' ∧ o'.dst = some N ∧ ks[k']? = some (.new cs t (some (off + k, c)))) ∧
   ∀ g,wD P ops S n0 o ((((os.zip ks).take k).foldl iT a).put (some N) (nv t.2 g)) g cs t c) ∧
  ∀ w,S w→vB K n0 (ps++lN off (os.zip ks)) [] ((os.zip ks).foldl iT a) w:=by
 induction os with
 | nil =>
  intro off a ps h
  exact ⟨[],rfl,fun k o v ho=>by simp at ho,fun k o cs t st ho=>by simp at ho,fun k o j c ho=>by simp at ho,by simpa [tH,lN] using h⟩
 | cons o os ih =>
  intro off a ps h
  have hsh:∀ k,off+1+k=off+(k+1):=fun k=>by omega
  rcases h with ⟨v,hs,hn,hd,h⟩|⟨N,cs,t,st,hN,hn,hd,htb,h⟩|⟨p,c,hp,hps,hdn,hptb,hst,h⟩
  ·obtain ⟨ks,hl,h1,h2,h3,h4⟩:=ih _ _ _ h
   refine ⟨.det v::ks,by simp [hl],fun k o' v' ho hk=>?_,fun k o' cs t st ho hk=>?_,fun k o' j c ho hk=>?_,by simpa [iT,lN] using h4⟩
   ·cases k with
    | zero =>
     simp only [List.getElem?_cons_zero,Option.some.injEq,vA.det.injEq] at ho hk
     subst ho
     subst hk
     exact ⟨hs,hn,by simpa using hd⟩
    | succ k=>simpa [iT] using h1 k o' v' (by simpa using ho) (by simpa using hk)
   ·cases k with
    | zero=>simp at hk
    | succ k =>
     have:=h2 k o' cs t st (by simpa using ho) (by simpa using hk)
     rw [hsh] at this
     simpa [iT] using this
   ·cases k with
    | zero=>simp at hk
    | succ k =>
     obtain ⟨a1,a2,N,cs,t,a3,a4⟩:=h3 k o' j c (by simpa using ho) (by simpa using hk)
     rw [hsh] at a2 a3
     refine ⟨a1,a2,N,cs,t,a3.imp id ?_,by simpa [iT] using a4⟩
     rintro ⟨k',o'',e1,e2,e3,e4⟩
     exact ⟨k'+1,o'',by omega,by simpa using e2,e3,by simpa using e4⟩
  ·obtain ⟨ks,hl,h1,h2,h3,h4⟩:=ih _ _ _ h
   refine ⟨.new cs t st::ks,by simp [hl],fun k o' v' ho hk=>?_,fun k o' cs' t' st' ho hk=>?_,fun k o' j c ho hk=>?_,?_⟩
   ·cases k with
    | zero=>simp at hk
    | succ k=>simpa [iT] using h1 k o' v' (by simpa using ho) (by simpa using hk)
   ·cases k with
    | zero =>
     simp only [List.getElem?_cons_zero,Option.some.injEq,vA.new.injEq] at ho hk
     subst ho
     obtain ⟨rfl,rfl,rfl⟩:=hk
     exact ⟨by rw [hN];rfl,hn,by simpa using hd,htb⟩
    | succ k =>
     have:=h2 k o' cs' t' st' (by simpa using ho) (by simpa using hk)
     rw [hsh] at this
     simpa [iT] using this
   ·cases k with
    | zero=>simp at hk
    | succ k =>
     obtain ⟨a1,a2,N',cs',t',a3,a4⟩:=h3 k o' j c (by simpa using ho) (by simpa using hk)
     rw [hsh] at a2 a3
     refine ⟨a1,a2,N',cs',t',?_,by simpa [iT] using a4⟩
     rcases a3 with a3|⟨k',o'',e1,e2,e3,e4⟩
     ·rcases List.mem_append.1 a3 with a3|a3
      ·exact .inl a3
      ·rw [List.mem_singleton] at a3
       injection a3 with b1 b2 b3 b4 b5
       refine .inr ⟨0,o,by omega,rfl,by rw [b2];exact hN,?_⟩
       rw [b3,b4,b5];rfl
     ·exact .inr ⟨k'+1,o'',by omega,by simpa using e2,e3,by simpa using e4⟩
   ·intro w hS
    have:=h4 w hS
    simpa [iT,lN,hN] using this
  ·obtain ⟨ks,hl,h1,h2,h3,h4⟩:=ih _ _ _ h
   refine ⟨.sto p.j c::ks,by simp [hl],fun k o' v' ho hk=>?_,fun k o' cs t st ho hk=>?_,fun k o' j c' ho hk=>?_,by simpa [iT,lN] using h4⟩
   ·cases k with
    | zero=>simp at hk
    | succ k=>simpa [iT] using h1 k o' v' (by simpa using ho) (by simpa using hk)
   ·cases k with
    | zero=>simp at hk
    | succ k =>
     have:=h2 k o' cs t st (by simpa using ho) (by simpa using hk)
     rw [hsh] at this
     simpa [iT] using this
   ·cases k with
    | zero =>
     simp only [List.getElem?_cons_zero,Option.some.injEq,vA.sto.injEq] at ho hk
     subst ho
     obtain ⟨rfl,rfl⟩:=hk
     refine ⟨hdn,hptb,p.N,p.cs,p.t,.inl ?_,by simpa using hst⟩
     have:(⟨p.j,p.N,p.cs,p.t,some (off+0,c)⟩:tZ)=p:=by cases p;simp only at hps;rw [hps];rfl
     rw [this]
     exact hp
    | succ k =>
     obtain ⟨a1,a2,N,cs,t,a3,a4⟩:=h3 k o' j c' (by simpa using ho) (by simpa using hk)
     rw [hsh] at a2 a3
     refine ⟨a1,a2,N,cs,t,a3.imp id ?_,by simpa [iT] using a4⟩
     rintro ⟨k',o'',e1,e2,e3,e4⟩
     exact ⟨k'+1,o'',by omega,by simpa using e2,e3,by simpa using e4⟩
theorem zP (b:Act) (p:Oper×vA):(iT b p).tmps.size=b.tmps.size:=by
 unfold iT
 split
 ·cases p.1.dst <;> simp [Act.put]
 ·rfl
theorem xB (b:Act) (p:Oper×vA):(iT b p).defers=b.defers:=by
 unfold iT
 split
 ·cases p.1.dst <;> rfl
 ·rfl
theorem uA (b:Act) (dst:Option Tmp) (v:Value) {t:Tmp} (h:dst≠some t):(b.put dst v).tmps[t]? = b.tmps[t]?:=by
 cases dst with
 | none=>rfl
 | some d =>
  simp only [Act.put]
  exact Array.getElem?_setIfInBounds_ne fun e=>h (by rw [e])
theorem yA (b:Act) (d:Tmp) (v:Value):(b.put (some d) v).tmps[d]? = if d<b.tmps.size then some v else none:=by
 simp only [Act.put]
 rw [Array.getElem?_setIfInBounds_self]
theorem qE (L:List (Oper×vA)):∀ b:Act,(L.foldl iT b).tmps.size=b.tmps.size∧(L.foldl iT b).defers=b.defers:=by
 induction L with
 | nil=>exact fun b=>⟨rfl,rfl⟩
 | cons p L ih =>
  intro b
  rw [List.foldl_cons]
  exact ⟨(ih _).1.trans (zP b p),(ih _).2.trans (xB b p)⟩
theorem qF (t:Tmp) (L:List (Oper×vA)):∀ b:Act,(∀ p ∈ L,∀ v,p.2=.det v→p.1.dst≠some t)→(L.foldl iT b).tmps[t]? = b.tmps[t]?:=by
 induction L with
 | nil=>intro b _;rfl
 | cons p L ih =>
  intro b h
  rw [List.foldl_cons,ih _ fun q hq=>h q (List.mem_cons_of_mem _ hq)]
  unfold iT
  split
  ·rename_i v hv
   exact uA b _ _ (h p List.mem_cons_self v hv)
  ·rfl
theorem xC (L:List (Oper×vA)) (b:Act) {k:Nat} {o:Oper} {v:Value} {d:Tmp} (hk:L[k]? = some (o,.det v)) (hd:o.dst=some d) (h:∀ j p,k<j→L[j]? = some p→p.1.dst≠some d) :
  (L.foldl iT b).tmps[d]? = if d<b.tmps.size then some v else none:=by
 have hkl:=(List.getElem?_eq_some_iff.1 hk).1
 have e:L=L.take k++(o,.det v)::L.drop (k+1):=by
  rw [← (List.getElem?_eq_some_iff.1 hk).2,← List.drop_eq_getElem_cons hkl,List.take_append_drop]
 rw [e,List.foldl_append,List.foldl_cons,qF d _ _ fun p hp v' _=>?_]
 ·show ((List.foldl iT b (List.take k L)).put o.dst v).tmps[d]? = _
  rw [hd,yA,(qE _ _).1]
 ·obtain ⟨j,hj,rfl⟩:=List.mem_iff_getElem.1 hp
  rw [List.length_drop] at hj
  rw [List.getElem_drop]
  exact h (k+1+j) _ (by omega) (List.getElem?_eq_getElem (by omega))
def gM (G:Nat→Nat):Nat→List (Oper×vA)→Act→Act
 | _,[],b=>b
 | off,p::L,b=>gM G (off+1) L (match p.2 with
  | .new _ t _=>b.put p.1.dst (nv t.2 (G off))
  | _=>b)
theorem wE (G:Nat→Nat) (L:List (Oper×vA)):∀ (off:Nat) (b:Act),(gM G off L b).tmps.size=b.tmps.size∧(gM G off L b).defers=b.defers:=by
 induction L with
 | nil=>exact fun _ b=>⟨rfl,rfl⟩
 | cons p L ih =>
  intro off b
  unfold gM
  obtain ⟨h1,h2⟩:=ih (off+1) (match p.2 with
   | .new _ t _=>b.put p.1.dst (nv t.2 (G off))
   | _=>b)
  rw [h1,h2]
  split
  ·cases p.1.dst <;> simp [Act.put]
  ·exact ⟨rfl,rfl⟩
theorem nL (G:Nat→Nat) (t:Tmp) (L:List (Oper×vA)):∀ (off:Nat) (b:Act),(∀ p ∈ L,∀ cs tt st,p.2=.new cs tt st→p.1.dst≠some t)→(gM G off L b).tmps[t]? = b.tmps[t]?:=by
 induction L with
 | nil=>exact fun _ b _=>rfl
 | cons p L ih =>
  intro off b h
  unfold gM
  rw [ih _ _ fun q hq=>h q (List.mem_cons_of_mem _ hq)]
  split
  ·rename_i c tt st hc
   exact uA b _ _ (h p List.mem_cons_self c tt st hc)
  ·rfl
theorem yB (G:Nat→Nat) (L:List (Oper×vA)):∀ (off:Nat) (b:Act) {k:Nat} {o:Oper} {cs:Array Value} {tt:TypeId×Nat} {st:Option (Nat×Array Value)} {d:Tmp},L[k]? = some (o,.new cs tt st)→o.dst=some d→(∀ j p,k<j→L[j]? = some p→p.1.dst≠some d) →
  (gM G off L b).tmps[d]? = if d<b.tmps.size then some (nv tt.2 (G (off+k))) else none:=by
 induction L with
 | nil=>intro off b k o cs tt st d hk;simp at hk
 | cons p L ih =>
  intro off b k o cs tt st d hk hd h
  cases k with
  | zero =>
   simp only [List.getElem?_cons_zero,Option.some.injEq] at hk
   subst hk
   unfold gM
   rw [nL G d L _ _ fun q hq _ _ _ _=>?_]
   ·show (b.put o.dst (nv tt.2 (G off))).tmps[d]? = _
    rw [hd,yA];rfl
   ·obtain ⟨j,hj,rfl⟩:=List.mem_iff_getElem.1 hq
    exact h (j+1) _ (by omega) (by simp [List.getElem?_eq_getElem hj])
  | succ k =>
   unfold gM
   have:=ih (off+1) (match p.2 with
    | .new _ t _=>b.put p.1.dst (nv t.2 (G off))
    | _=>b) (k:=k) (by simpa using hk) hd (fun j q hj hq=>h (j+1) q (by omega) (by simpa using hq))
   rw [this,show off+1+k=off+(k+1) by omega]
   congr 1
   split
   ·cases p.1.dst <;> simp [Act.put]
   ·rfl
theorem zQ {K:Act→World→Prop} {n0:Nat} {w:World} (G:Nat→Nat) (L:List (Oper×vA)):∀ (off:Nat) (av:List Nat) (b:Act),vB K n0 (lN off L) av b w →
  (∀ k o cs t st,L[k]? = some (o,.new cs t st)→(∃ d,o.dst=some d)∧w.heap[G (off+k)]? = some (.cells (cH cs st) t.1 (0,0))∧n0≤G (off+k)∧G (off+k) ∉ av) →
  (∀ k k' o o' cs t st cs' t' st',k<k'→L[k]? = some (o,.new cs t st)→L[k']? = some (o',.new cs' t' st')→G (off+k')≠G (off+k))→K (gM G off L b) w:=by
 induction L with
 | nil=>intro off av b h _ _;exact h
 | cons p L ih =>
  intro off av b h h1 h2
  obtain ⟨o,kd⟩:=p
  have wU:∀ (b':Act),gM G off ((o,kd)::L) b=gM G (off+1) L b'→lN off ((o,kd)::L)=lN (off+1) L→b'=b→K (gM G off ((o,kd)::L) b) w:=by
   intro b' e1 e2 e3
   rw [e1,e3]
   rw [e2] at h
   refine ih (off+1) av b h (fun k o' cs t st hk=>?_) (fun k k' o o' cs t st cs' t' st' hlt hk hk'=>?_)
   ·have:=h1 (k+1) o' cs t st (by simpa using hk)
    rwa [show off+(k+1)=off+1+k by omega] at this
   ·have:=h2 (k+1) (k'+1) o o' cs t st cs' t' st' (by omega) (by simpa using hk) (by simpa using hk')
    rwa [show off+(k+1)=off+1+k by omega,show off+(k'+1)=off+1+k' by omega] at this
  cases kd with
  | det v=>exact wU b rfl (by simp [lN]) rfl
  | sto j c=>exact wU b rfl (by simp [lN]) rfl
  | new cs t st =>
   obtain ⟨⟨d,hd⟩,hb,hn,hav⟩:=h1 0 o cs t st rfl
   have e:lN off ((o,vA.new cs t st)::L)=⟨off,d,cs,t,st⟩::lN (off+1) L:=by
    simp [lN,hd]
   rw [e] at h
   have h':=zO h (G off) hav hb hn
   have:=ih (off+1) (G off::av) _ h' (fun k o' cs' t' st' hk=>?_) (fun k k' o o' cs t st cs' t' st' hlt hk hk'=>?_)
   ·show K (gM G (off+1) L (b.put o.dst _)) w
    rw [hd]
    exact this
   ·have h3:=h1 (k+1) o' cs' t' st' (by simpa using hk)
    have h4:=h2 0 (k+1) o o' cs t st cs' t' st' (by omega) rfl (by simpa using hk)
    rw [show off+(k+1)=off+1+k by omega] at h3 h4
    refine ⟨h3.1,h3.2.1,h3.2.2.1,?_⟩
    rw [List.mem_cons]
    rintro (e|e)
    ·exact h4 e
    ·exact h3.2.2.2 e
   ·have:=h2 (k+1) (k'+1) o o' cs t st cs' t' st' (by omega) (by simpa using hk) (by simpa using hk')
    rwa [show off+(k+1)=off+1+k by omega,show off+(k'+1)=off+1+k' by omega] at this
theorem EO {id : Nat} {a : Act} {w : World} (m : Nat) (n0 : Nat) (tb : List (Nat × Nat)) (hm : P.follows .mixedOrders = true) (hc : qD .any ops m tb = true) (hSw : S w.drew) (hS : ∀ w w1, S w → Below n0 w w1 → S w1) (hn0 : ∀ w, S w → n0 ≤ w.heap.size)
  (h:tH P ops S (fun a w=>wpAnyLast P .any ops Q (fun _=>True) [] (ops.size-m) (bm ops.size (2 ^ m-1)) a w) n0 tb (ops.toList.take m) 0 a []):(Code.region id ops true).wp P Q a w:=by
 have hle:=tG hc
 obtain ⟨ks,hl,h1,h2,h5,h3⟩:=xH _ 0 a [] h
 have hl':ks.length=m:=by rw [hl,List.length_take];simp;omega
 have hos:∀ i,i<m→(ops.toList.take m)[i]? = ops[i]?:=by
  intro i hi
  rw [List.getElem?_take,if_pos hi];simp
 have hks:∀ i,i<m→ks[i]? = some (ks.getD i (.det undef)):=by
  intro i hi
  rw [List.getD_eq_getElem?_getD,List.getElem?_eq_getElem (by omega)];rfl
 have hzl:((ops.toList.take m).zip ks).length=m:=by simp [hl'];omega
 have hz:∀ i oi,i<m→ops[i]? = some oi→((ops.toList.take m).zip ks)[i]? = some (oi,ks.getD i (.det undef)):=by
  intro i oi hi hoi
  rw [List.getElem?_zip_eq_some]
  exact ⟨(hos i hi).trans hoi,hks i hi⟩
 have hzo:∀ i p,((ops.toList.take m).zip ks)[i]? = some p→i<m∧ops[i]? = some p.1∧ks.getD i (.det undef)=p.2:=by
  intro i p hp
  have hi:i<m:=by have:=(List.getElem?_eq_some_iff.1 hp).1;omega
  rw [List.getElem?_zip_eq_some] at hp
  refine ⟨hi,(hos i hi).symm.trans hp.1,?_⟩
  exact Option.some.inj ((hks i hi).symm.trans hp.2)

 have hdet : ∀ (G : Nat → Nat) i oi, i < m → ops[i]? = some oi → ∀ t, t ∈ oi.looksAt ops → (∀ j oj, j < m → ops[j]? = some oj → oj.dst = some t → mK oj = false) → ((((ops.toList.take m).zip ks).take i).foldl iT a).tmps[t]? = (fN ops (fun i => gQ G i (ks.getD i (.det undef))) a m).tmps[t]? := by
  intro G i oi hi hoi t ht hnn
  have sp:=iL hc (fun i=>gQ G i (ks.getD i (.det undef))) a m (Nat.le_refl m)
  by_cases hex:∃ j oj,j<m∧ops[j]? = some oj∧oj.dst=some t
  ·obtain ⟨j,oj,hj,hoj,hdj⟩:=hex
   obtain ⟨hlt,hlk⟩:=lL hc hi hoi
   obtain ⟨_,e,he,hb,hon⟩:=(hlk j oj t hj hoj hdj).2 ht
   have hnj:=hnn j oj hj hoj hdj
   have hji:j<i:=by rw [← hon];exact hlt e he hb
   rw [sp.2.2.2 j oj t hj hoj hdj]
   cases hkj:ks.getD j (.det undef) with
   | new cs tt st =>
    have:=(h2 j oj cs tt st ((hos j hj).trans hoj) (by rw [hks j hj,hkj])).2.1
    rw [hnj] at this
    cases this
   | sto j' c =>
    have:=(h5 j oj j' c ((hos j hj).trans hoj) (by rw [hks j hj,hkj])).1
    rw [hdj] at this
    cases this
   | det v =>
    refine xC _ _ (k:=j) (o:=oj) (v:=v) ?_ hdj fun k p hk hp=>?_
    ·rw [List.getElem?_take,if_pos hji,hz j oj hj hoj,hkj]
    ·have hki:k<i:=by
      have:=(List.getElem?_eq_some_iff.1 hp).1
      rw [List.length_take] at this;omega
     rw [List.getElem?_take,if_pos hki] at hp
     obtain ⟨hkm,hok,_⟩:=hzo k p hp
     exact ((lL hc hkm hok).2 j oj t hj hoj hdj).1 (by omega)
  ·rw [sp.2.2.1 t fun j oj hj hoj hdj=>absurd ⟨j,oj,hj,hoj,hdj⟩ hex]
   refine qF t _ _ fun p hp v _ hd=>hex ?_
   obtain ⟨k,hk,rfl⟩:=List.mem_iff_getElem.1 hp
   rw [List.length_take] at hk
   rw [List.getElem_take] at hd
   obtain ⟨hkm,hok,_⟩:=hzo k _ (List.getElem?_eq_getElem (by omega))
   exact ⟨k,_,hkm,hok,hd⟩

 have hno:∀ i oi,i<m→ops[i]? = some oi→oi.dst.isSome=true→∀ t,t ∈ oi.looksAt ops→∀ j oj,j<m→ops[j]? = some oj→oj.dst=some t→mK oj=false:=by
  intro i oi hi hoi hs t ht j oj hj hoj hdj
  rcases (((lL hc hi hoi).2 j oj t hj hoj hdj).2 ht).1 with h|h
  ·exact h
  ·obtain ⟨_,_,⟨o,ho,hdn,_⟩,_⟩:=pG hc h
   rw [hoi] at ho
   obtain rfl:=Option.some.inj ho
   rw [hdn] at hs
   cases hs
 have hKinds : AM P ops S m tb a (fun i => ks.getD i (.det undef)) n0 := by
  refine ⟨fun G i oi v hi hoi hk=>?_,fun G i oi cs t st hi hoi hk=>?_,fun G i oi j c hi hoi hk=>?_,fun i oi hi hoi hdn=>?_⟩
  ·obtain ⟨hs,_,hd⟩:=h1 i oi v ((hos i hi).trans hoi) (by rw [hks i hi,hk])
   obtain ⟨hex,hwa⟩:=lM (fun cs b=>Region.noSelect_spec (lK hc) i oi cs b hoi) (fun t ht=>hdet G i oi hi hoi t ht (hno i oi hi hoi hs t ht))
   unfold CD at *
   rw [← hex,← hwa]
   exact hd
  ·obtain ⟨hs,_,hd,htb⟩:=h2 i oi cs t st ((hos i hi).trans hoi) (by rw [hks i hi,hk])
   obtain ⟨hex,hwa⟩:=lM (fun cs b=>Region.noSelect_spec (lK hc) i oi cs b hoi) (fun t ht=>hdet G i oi hi hoi t ht (hno i oi hi hoi hs t ht))
   rw [Nat.zero_add] at htb
   refine ⟨hs,?_,htb⟩
   unfold CE at *
   rw [← hex,← hwa]
   exact hd
  ·obtain ⟨hdn,hjtb,N,cs,t,hor,hst⟩:=h5 i oi j c ((hos i hi).trans hoi) (by rw [hks i hi,hk])
   rw [Nat.zero_add] at hjtb hor
   rcases hor with hor|⟨k',o',e1,e2,e3,e4⟩
   ·cases hor
   have e1:k'=j:=by omega
   subst e1
   have hjm:k'<m:=(pG hc hjtb).1
   rw [hos k' hjm] at e2
   rw [hks k' hjm] at e4
   have e4:=Option.some.inj e4
   refine ⟨hdn,hjtb,cs,t,e4,?_⟩
   have sp:=iL hc (fun i=>gQ G i (ks.getD i (.det undef))) a m (Nat.le_refl m)
   obtain ⟨hex,hwa⟩:=lM (a:=((((ops.toList.take m).zip ks).take i).foldl iT a).put (some N) (nv t.2 (G k'))) (b:=fN ops (fun i=>gQ G i (ks.getD i (.det undef))) a m) (fun cs b=>Region.noSelect_spec (lK hc) i oi cs b hoi) (fun t' ht'=>by
    by_cases htN:t'=N
    ·subst htN
     rw [yA,(qE _ _).1,sp.2.2.2 k' o' t' hjm e2 e3,e4]
     rfl
    ·rw [uA _ _ _ (fun e=>htN (Option.some.inj e).symm)]
     refine hdet G i oi hi hoi t' ht' fun j' oj' hj' hoj' hdj'=>?_
     rcases (((lL hc hi hoi).2 j' oj' t' hj' hoj' hdj').2 ht').1 with h|h
     ·exact h
     ·have:=(pG hc hjtb).2.2.2 j' h
      subst this
      rw [e2] at hoj'
      obtain rfl:=Option.some.inj hoj'
      rw [e3] at hdj'
      exact absurd (Option.some.inj hdj').symm htN)
   have:=hst (G k')
   unfold wD at *
   rw [← hex,← hwa]
   exact this
  ·cases hki:ks.getD i (.det undef) with
   | det v =>
    have:=(h1 i oi v ((hos i hi).trans hoi) (by rw [hks i hi,hki])).1
    rw [hdn] at this
    cases this
   | new cs t st =>
    have:=(h2 i oi cs t st ((hos i hi).trans hoi) (by rw [hks i hi,hki])).1
    rw [hdn] at this
    cases this
   | sto j c=>exact ⟨j,c,rfl⟩
 refine wp_region_any hm ?_
 suffices key:wpAny P .any ops Q (m+(ops.size-m)) (Array.replicate ops.size false) a w.drew by
  rw [show m+(ops.size-m)=ops.size by omega] at key
  exact key
 refine DE (Q:=Q) hc a (fun i=>ks.getD i (.det undef)) n0 hS hn0 hKinds (fun G w hSw hb hap=>?_) m (Array.replicate ops.size false) (fun _=>0) a w.drew (by simp) ?_ ?_ hSw
 ·have h4 := zQ G _ 0 [] _ (by simpa using h3 w hSw) (fun k o cs t st hk => ?_) (fun k k' o o' cs t st cs' t' st' hlt hk hk' => ?_)
  ·have e : gM G 0 ((ops.toList.take m).zip ks) (((ops.toList.take m).zip ks).foldl iT a) = fN ops (fun i => gQ G i (ks.getD i (.det undef))) a m := by
    have sp:=iL hc (fun i=>gQ G i (ks.getD i (.det undef))) a m (Nat.le_refl m)
    have z1:=wE G ((ops.toList.take m).zip ks) 0 (((ops.toList.take m).zip ks).foldl iT a)
    have z2:=qE ((ops.toList.take m).zip ks) a
    have hslot:∀ t:Tmp,(gM G 0 ((ops.toList.take m).zip ks) (((ops.toList.take m).zip ks).foldl iT a)).tmps[t]? = (fN ops (fun i=>gQ G i (ks.getD i (.det undef))) a m).tmps[t]?:=by
     intro t
     by_cases hex:∃ j oj,j<m∧ops[j]? = some oj∧oj.dst=some t
     ·obtain ⟨j,oj,hj,hoj,hdj⟩:=hex
      have honly:∀ k p,((ops.toList.take m).zip ks)[k]? = some p→k≠j→p.1.dst≠some t:=by
       intro k p hp hkj
       obtain ⟨hkm,hok,_⟩:=hzo k p hp
       exact ((lL hc hkm hok).2 j oj t hj hoj hdj).1 (Ne.symm hkj)
      rw [sp.2.2.2 j oj t hj hoj hdj]
      cases hkj:ks.getD j (.det undef) with
      | new cs tt st =>
       rw [yB G _ 0 _ (k:=j) (o:=oj) (cs:=cs) (tt:=tt) (st:=st) (d:=t) (by rw [hz j oj hj hoj,hkj]) hdj (fun k p hk hp=>honly k p hp (by omega)),z2.1,Nat.zero_add]
       rfl
      | sto j' c =>
       have:=(h5 j oj j' c ((hos j hj).trans hoj) (by rw [hks j hj,hkj])).1
       rw [hdj] at this
       cases this
      | det v =>
       rw [nL G t _ _ _ fun p hp cs tt st hc'=>?_]
       ·exact xC _ _ (k:=j) (v:=v) (by rw [hz j oj hj hoj,hkj]) hdj (fun k p hk hp=>honly k p hp (by omega))
       ·obtain ⟨k,hk,rfl⟩:=List.mem_iff_getElem.1 hp
        have hp2:=List.getElem?_eq_getElem hk
        refine honly k _ hp2 ?_
        rintro rfl
        obtain ⟨_,_,hk3⟩:=hzo k _ hp2
        rw [hkj] at hk3
        rw [← hk3] at hc'
        cases hc'
     ·rw [sp.2.2.1 t fun j oj hj hoj hdj=>absurd ⟨j,oj,hj,hoj,hdj⟩ hex]
      have hno:∀ p ∈ (ops.toList.take m).zip ks,p.1.dst≠some t:=by
       intro p hp hd
       obtain ⟨k,hk,rfl⟩:=List.mem_iff_getElem.1 hp
       obtain ⟨hkm,hok,_⟩:=hzo k _ (List.getElem?_eq_getElem hk)
       exact hex ⟨k,_,hkm,hok,hd⟩
      rw [nL G t _ _ _ fun p hp _ _ _ _=>hno p hp,qF t _ _ fun p hp _ _=>hno p hp]
    generalize gM G 0 ((ops.toList.take m).zip ks) (((ops.toList.take m).zip ks).foldl iT a)=x at z1 hslot ⊢
    have s2:=sp.2.1
    generalize fN ops (fun i=>gQ G i (ks.getD i (.det undef))) a m=y at s2 hslot ⊢
    have hde:x.defers=y.defers:=z1.2.trans (z2.2.trans s2.symm)
    cases x with|mk xt xd=>cases y with|mk yt yd =>
    simp only at hslot hde
    subst hde
    congr 1
    exact Array.ext_getElem? hslot
   rw [e] at h4
   exact lS _ _ _ _ h4
  ·obtain ⟨hkm,hok,hk3⟩:=hzo k _ hk
   have hb':=hb k cs t st hkm hk3
   have hs:=(h2 k o cs t st ((hos k hkm).trans hok) (by rw [hks k hkm,hk3])).1
   exact ⟨Option.isSome_iff_exists.1 hs,by rw [Nat.zero_add];exact hb'.1,by rw [Nat.zero_add];exact hb'.2,by simp⟩
  ·obtain ⟨hkm,_,hk3⟩:=hzo k _ hk
   obtain ⟨hkm',_,hk3'⟩:=hzo k' _ hk'
   rw [Nat.zero_add,Nat.zero_add]
   exact hap k' k cs' t' st' cs t st hkm' hkm (by omega) hk3' hk3
 ·unfold CG
  rw [Array.toList_replicate,List.take_replicate,List.countP_replicate]
  simp
  omega
 ·have sp:=iL hc (fun i=>gQ (fun _=>0) i (ks.getD i (.det undef))) a m (Nat.le_refl m)
  have hf:∀ i,(Array.replicate ops.size false).getD i false=false:=by
   intro i
   by_cases hi:i<ops.size
   ·simp [Array.getD_eq_getD_getElem?,hi]
   ·simp [Array.getD_eq_getD_getElem?,hi]
  refine ⟨sp.1.symm,sp.2.1.symm,fun t ht=>(sp.2.2.1 t fun i oi him hoi hd=>?_).symm,fun i _=>hf i,fun i oi _ hl'=>?_,fun i cs t st _ hl'=>?_,fun i j cs t st cs' t' st' _ _ _ hl'=>?_⟩
  ·have:=ht i oi him hoi hd
   rw [hf] at this
   cases this
  ·rw [hf] at hl';cases hl'
  ·rw [hf] at hl';cases hl'
  ·rw [hf] at hl';cases hl'
/-! ### its steps,by the operations' numbers -/
def lU (P:Program) (ops:Array Oper) (S:World→Prop) (K:Act→World→Prop) (n0:Nat) (tb:List (Nat×Nat)) (m i:Nat) (a:Act) (ps:List tZ):Prop:=tH P ops S K n0 tb ((ops.toList.take m).drop i) i a ps
theorem pI {m i:Nat} {o:Oper} (hi:ops[i]? = some o) (him:i<m):(ops.toList.take m).drop i=o::(ops.toList.take m).drop (i+1):=by
 obtain ⟨h1,h2⟩:=Array.getElem?_eq_some_iff.1 hi
 have hl:i<(ops.toList.take m).length:=by rw [List.length_take];simp;omega
 rw [List.drop_eq_getElem_cons hl]
 simp [h2]
theorem dH {id:Nat} {a:Act} {w:World} (m:Nat) (n0:Nat) (tb:List (Nat×Nat)) (hm:P.follows .mixedOrders=true) (hc:qD .any ops m tb=true) (hSw:S w.drew) (hS:∀ w w1,S w→Below n0 w w1→S w1) (hn0:∀ w,S w→n0≤w.heap.size)
  (h:lU P ops S (fun a w=>wpAnyLast P .any ops Q (fun _=>True) [] (ops.size-m) (bm ops.size (2 ^ m-1)) a w) n0 tb m 0 a []):(Code.region id ops true).wp P Q a w:=EO m n0 tb hm hc hSw hS hn0 h
section
variable {K : Act → World → Prop} {n0 m i j : Nat} {tb : List (Nat × Nat)} {ps : List tZ} {o : Oper} {a a' : Act} {N : Tmp}
theorem eH (v:Value) (hi:ops[i]? = some o) (hd:o.dst=some N) (hn:(!mK o&&decide (i<m))=true) (hj:i+1=j) (hw:Region.wanted o (yielded ops a.tmps)=true) (hy:∀ w,S w→(execOp a.eval o).run P w=.ok (.value v) w)
  (ha:a.put (some N) v=a') (h:lU P ops S K n0 tb m j a' ps):lU P ops S K n0 tb m i a ps:=by
 simp only [Bool.and_eq_true,Bool.not_eq_true',decide_eq_true_eq] at hn
 subst hj
 unfold lU
 rw [pI hi hn.2]
 exact .inl ⟨v,by rw [hd];rfl,hn.1,.inr ⟨hw,fun w hS=>.inl (hy w hS)⟩,by rw [hd,ha];exact h⟩
theorem qG (hi:ops[i]? = some o) (hd:o.dst=some N) (hn:(!mK o&&decide (i<m))=true) (hj:i+1=j) (hw:Region.wanted o (yielded ops a.tmps)=false)
  (ha:a.put (some N) undef=a') (h:lU P ops S K n0 tb m j a' ps):lU P ops S K n0 tb m i a ps:=by
 simp only [Bool.and_eq_true,Bool.not_eq_true',decide_eq_true_eq] at hn
 subst hj
 unfold lU
 rw [pI hi hn.2]
 exact .inl ⟨undef,by rw [hd];rfl,hn.1,.inl ⟨hw,rfl⟩,by rw [hd,ha];exact h⟩
theorem lD (cs:Array Value) (t:TypeId) (st:Option (Nat×Array Value)) (hi:ops[i]? = some o) (hd:o.dst=some N) (hn:(mK o&&decide (i<m)&&(st.all fun p=>tb.contains (i,p.1)))=true) (hj:i+1=j) (hw:Region.wanted o (yielded ops a.tmps)=true)
  (hy:∀ w,S w→(execOp a.eval o).run P w=.ok (.value (.pointer (some ⟨w.heap.size,0,none⟩))) (w.alloc (.cells cs t (0,0)))) (h:lU P ops S K n0 tb m j a (ps++[⟨i,N,cs,(t,0),st⟩])):lU P ops S K n0 tb m i a ps:=by
 simp only [Bool.and_eq_true,decide_eq_true_eq] at hn
 subst hj
 unfold lU
 rw [pI hi hn.1.2]
 refine .inr (.inl ⟨N,cs,(t,0),st,hd,hn.1.1,⟨hw,hy⟩,fun s c e=>?_,h⟩)
 subst e
 exact List.contains_iff_mem.1 hn.2
theorem EP (cs:Array Value) (t:TypeId) (n:Nat) (hi:ops[i]? = some o) (hd:o.dst=some N) (hn:(mK o&&decide (i<m))=true) (hj:i+1=j) (hw:Region.wanted o (yielded ops a.tmps)=true)
  (hy:∀ w,S w→(execOp a.eval o).run P w=.ok (.value (.slice (some ⟨w.heap.size,0,none⟩) n n)) (w.alloc (.cells cs t (0,0)))) (h:lU P ops S K n0 tb m j a (ps++[⟨i,N,cs,(t,n+1),none⟩])):lU P ops S K n0 tb m i a ps:=by
 simp only [Bool.and_eq_true,decide_eq_true_eq] at hn
 subst hj
 unfold lU
 rw [pI hi hn.2]
 exact .inr (.inl ⟨N,cs,(t,n+1),none,hd,hn.1,⟨hw,hy⟩,(fun s c e=>by cases e),h⟩)
theorem fZ (v:Value) {f:FuncId} {fn:Func} {zs:Array Operand} {ts:Array TypeId} (hi:ops[i]? = some o) (hop:o.op=.call { callee:=.value (.func f),args:=zs,argTypes:=ts }) (hf:P.funcs[f]? = some fn) (hd:o.dst=some N) (hn:(!mK o&&decide (i<m))=true) (hj:i+1=j) (hw:Region.wanted o (yielded ops a.tmps)=true)
  (hname:(fn.name == "runtime.NumGoroutine")=false) (hb:fn.body.isSome=true) (args:Array Value) (hargs:zs.map a.eval=args) (hcall:∀ w,S w→Calls P f args w fun e w1=>e=.returned v∧Below w.heap.size w w1)
  (ha:a.put (some N) v=a') (h:lU P ops S K n0 tb m j a' ps):lU P ops S K n0 tb m i a ps:=by
 simp only [Bool.and_eq_true,Bool.not_eq_true',decide_eq_true_eq] at hn
 subst hj
 unfold lU
 rw [pI hi hn.2]
 refine .inl ⟨v,by rw [hd];rfl,hn.1,.inr ⟨hw,fun w hS=>.inr ⟨f,args,?_,hcall w hS⟩⟩,by rw [hd,ha];exact h⟩
 have he:=wA hf hname hb args w
 unfold execOp
 simp [hop,resolve,Deferred.ofValue,invoke,Act.eval,hargs,he]
theorem lE (k:Nat) {p:tZ} {c:Array Value} (hp:ps[k]? = some p) (hst:p.st=some (i,c)) (hi:ops[i]? = some o) (hd:o.dst=none) (hn:(decide (i<m)&&tb.contains (p.j,i))=true) (hj:i+1=j)
  (hw:∀ g,Region.wanted o (yielded ops (a.put (some p.N) (.pointer (some ⟨g,0,none⟩))).tmps)=true)
  (hy:∀ g w,S w→w.heap[g]? = some (.cells p.cs p.t.1 (0,0))→n0≤g→∃ w1,(execOp (a.put (some p.N) (.pointer (some ⟨g,0,none⟩))).eval o).run P w=.ok .skip w1∧CF g w w1∧w1.heap[g]? = some (.cells c p.t.1 (0,0)))
  (h:lU P ops S K n0 tb m j a ps) (h0:p.t.2=0:=by rfl):lU P ops S K n0 tb m i a ps:=by
 simp only [Bool.and_eq_true,decide_eq_true_eq] at hn
 subst hj
 unfold lU
 rw [pI hi hn.1]
 refine .inr (.inr ⟨p,c,List.mem_of_getElem? hp,hst,hd,List.contains_iff_mem.1 hn.2,fun g=>?_,h⟩)
 rw [h0]
 exact ⟨hw g,hy g⟩
theorem fB (h:∀ w,S w→vB K n0 ps [] a w):lU P ops S K n0 tb m m a ps:=by
 unfold lU
 rw [List.drop_of_length_le (by rw [List.length_take];omega)]
 exact h
end
theorem aG {w w1:World} {p:Addr} {v:Value} (hb:Below w.heap.size w w1) (h:w.cell? p=some v):w1.cell? p=some v:=(hb.cell (World.block_lt_of_cell? _ _ h)).trans h
end
end Go.Proofs.Ytldcckcljjlglaa.P

namespace Go.Proofs.Ytldcckcljjlglaa.P
open Go.RowKit Go.Proofs.YtldcckcljjlglaaW.PrintWords Go.Proofs.YtldcckcljjlglaaW.PrintLast Go.Proofs.YtldcckcljjlglaaW.PrintMore
attribute [local go_sem] max2_int min2_int max_two min_two max_three min_three max_four min_four
set_option linter.unusedVariables false
set_option linter.unusedSimpArgs false
/-! ### spec_DesarguesOf: function 74 -/
abbrev vC:=eV
def tr (q:List vC) (i:Int):vC:=aI q i
def qI (k:Nat) (a b:vC):Option (Int×Int×Int):=spec_CrossOf.f k a.f0 a.f1 a.f2 b.f0 b.f1 b.f2
def jI (i:Nat):Nat:=if i=2 then 1 else 0
def jJ (i:Nat):Nat:=if i=0 then 1 else 2
def dE:Nat→List vC→List vC→Nat→Option (List vC×Bool)
 | 0,_,_,_=>none
 | k+1,q,out,i=>if i<3 then (qI k (tr q (jI i)) (tr q (jJ i))).bind fun t=>(qI k (tr q (3+jI i)) (tr q (3+jJ i))).bind fun u=>(spec_l26Equal.f k t.1 t.2.1 t.2.2 u.1 u.2.1 u.2.2).bind fun b=>(if b=true then some ([],false) else (spec_CrossOf.f k t.1 t.2.1 t.2.2 u.1 u.2.1 u.2.2).bind fun c=>if out.length<1000000 then dE k q (out++[⟨c.1,c.2.1,c.2.2⟩]) (i+1) else none) else some (out,true)
def EJ (q:List vC) (i:Int):Option Bool:=spec_AreOnOne.f (tr q i).f0 (tr q i).f1 (tr q i).f2 (tr q (i+1)).f0 (tr q (i+1)).f1 (tr q (i+1)).f2 (tr q (i+2)).f0 (tr q (i+2)).f1 (tr q (i+2)).f2
def spec_DesarguesOf.f (k:Nat) (l0:List dB):Option (List vC×Bool):=(spec_l26Six.f k l0).bind fun s=>if s.2=true then (if s.1.length=6 then (EJ s.1 0).bind fun x=>(if x=true then some ([],false) else (EJ s.1 3).bind fun y=>(if y=true then some ([],false) else dE k s.1 [] 0)) else none) else some ([],false)
theorem CW (W:World) (o1 o2 o3 o4:Obj):((((W.alloc o1).alloc o2).alloc o3).alloc o4).heap[W.heap.size]? = some o1∧((((W.alloc o1).alloc o2).alloc o3).alloc o4).heap[W.heap.size+1]? = some o2∧((((W.alloc o1).alloc o2).alloc o3).alloc o4).heap[W.heap.size+2]? = some o3∧((((W.alloc o1).alloc o2).alloc o3).alloc o4).heap[W.heap.size+3]? = some o4∧((((W.alloc o1).alloc o2).alloc o3).alloc o4).heap.size=W.heap.size+4:=by
 have e:((((W.alloc o1).alloc o2).alloc o3).alloc o4).heap=(((W.heap.push o1).push o2).push o3).push o4:=rfl
 rw [e]
 refine ⟨?_,?_,?_,?_,by simp⟩ <;> simp only [Array.getElem?_push,Array.size_push] <;> (repeat' (first|rfl|rw [if_pos (by omega)]|rw [if_neg (by omega)]))
def tI (W:World) (g:Nat):Prop:=(∀ i:Nat,i<3→W.cell? ⟨g+i,0,none⟩=some (.int .i64 (jI i))∧W.cell? ⟨g+i,1,none⟩=some (.int .i64 (jJ i))∧W.cell? ⟨g+3,i,none⟩=some (.slice (some ⟨g+i,0,none⟩) 2 2))∧g+4≤W.heap.size
theorem tI.to {W W':World} {g:Nat} (h:tI W g) (hs:W.heap.size≤W'.heap.size) (hb:∀ k,g≤k→k<g+4→W'.heap[k]? = W.heap[k]?):tI W' g:=by
 refine ⟨fun i hi=>?_,by have:=h.2;omega⟩
 obtain ⟨h1,h2,h3⟩:=h.1 i hi
 have e:∀ (b j:Nat),g≤b→b<g+4→W'.cell? ⟨b,j,none⟩=W.cell? ⟨b,j,none⟩:=by
  intro b j hb1 hb2
  simp only [World.cell?,hb b hb1 hb2]
 exact ⟨(e _ _ (by omega) (by omega)).trans h1,(e _ _ (by omega) (by omega)).trans h2,(e _ _ (by omega) (by omega)).trans h3⟩
theorem yC (W:World):tI ((((W.alloc (.cells #[.int .i64 0,.int .i64 1] 3)).alloc (.cells #[.int .i64 0,.int .i64 2] 3)).alloc (.cells #[.int .i64 1,.int .i64 2] 3)).alloc (.cells #[.slice (some ⟨W.heap.size,0,none⟩) 2 2,.slice (some ⟨W.heap.size+1,0,none⟩) 2 2,.slice (some ⟨W.heap.size+1+1,0,none⟩) 2 2] 29)) W.heap.size:=by
 obtain ⟨h1,h2,h3,h4,h5⟩:=CW W (.cells #[.int .i64 0,.int .i64 1] 3) (.cells #[.int .i64 0,.int .i64 2] 3) (.cells #[.int .i64 1,.int .i64 2] 3) (.cells #[.slice (some ⟨W.heap.size,0,none⟩) 2 2,.slice (some ⟨W.heap.size+1,0,none⟩) 2 2,.slice (some ⟨W.heap.size+1+1,0,none⟩) 2 2] 29)
 generalize ((((W.alloc (.cells #[.int .i64 0,.int .i64 1] 3)).alloc (.cells #[.int .i64 0,.int .i64 2] 3)).alloc (.cells #[.int .i64 1,.int .i64 2] 3)).alloc (.cells #[.slice (some ⟨W.heap.size,0,none⟩) 2 2,.slice (some ⟨W.heap.size+1,0,none⟩) 2 2,.slice (some ⟨W.heap.size+1+1,0,none⟩) 2 2] 29))=V at h1 h2 h3 h4 h5 ⊢
 refine ⟨fun i hi=>?_,by omega⟩
 have:i=0∨i=1∨i=2:=by omega
 rcases this with rfl|rfl|rfl
 ·simp [World.cell?,h1,h4,jI,jJ]
 ·simp [World.cell?,h2,h4,jI,jJ]
 ·simp [World.cell?,h3,h4,jI,jJ]
set_option maxHeartbeats 4000000 in
set_option maxRecDepth 100000 in
theorem gW (k : Nat) (A0 : Option Addr) (c0 : Nat) (l0 : List dB) (r1 : List vC) (r2 : Bool) (w : World) (hr0 : Kd.C gA w A0 l0.length l0) (hc0 : l0.length ≤ c0) (h : spec_DesarguesOf.f k l0 = some (r1, r2)) :
  Calls Try.prog 74 #[.slice A0 l0.length c0] w fun e w'=>∃ v0_:Value,e=.returned (.tuple #[v0_,.bool r2])∧Kd.R gG 72 w' w.heap.size (fun _=>True) v0_ r1∧Below w.heap.size w w':=by
 have HR:=aD hr0
 have HC:=aD hc0
 have HB:=aD (Below.refl w.heap.size w)
 unfold spec_DesarguesOf.f at h
 obtain ⟨⟨q,b⟩,hs,h⟩:=iS h
 have HA1:=aD hs
 clear hr0 hc0 hs
 have hup:=Try.underlying80
 have hut:=Try.underlying72
 cases b with
 | false =>
  obtain ⟨rfl,rfl⟩:=Prod.mk.inj (Option.some.inj (show some (([]:List vC),false)=some (r1,r2) from h))
  clear h
  go_enter Try.func74,Try.ntmps74
  go_wp2_with (first|(go_at_call 122;(with_reducible refine (gL k A0 c0 l0 q false _ (Kd.C_below HR.out HB.out) HC.out HA1.out).mono ?_);rintro e w1 ⟨v1,rfl,ho1,hb1⟩;obtain ⟨A1,c1,rfl⟩:=Kd.R_slice ho1;have HQ:=aD ho1;have m0_:=aD (aE HB.out hb1);clear HB ho1 hb1;have HB:=m0_;clear m0_))
  generalize hw1:w1=W1 at HB HQ ⊢
  clear hw1
  refine dH (S:=fun w'=>Below W1.heap.size W1 w') 26 W1.heap.size [] (by kernel_rfl) (by kernel_rfl) (cB (Below.refl _ _)) (fun _ _ h1 h2=>h1.trans h2) (fun _ h1=>h1.size) ?_
  iterate 26 (first
   | (refine eH (v:=?_) (a':=?_) rfl rfl rfl rfl (by rfl) ?_ ?_ ?_;rotate_left 2;(· rintro w' hb';go_simp;with_reducible rfl);(· simp only [Act.put,List.setIfInBounds_toArray,List.set_cons_zero,List.set_cons_succ,aZ,bB];rfl))
   | (refine qG (a':=?_) rfl rfl rfl rfl (by rfl) ?_ ?_;rotate_left;(· simp only [Act.put,List.setIfInBounds_toArray,List.set_cons_zero,List.set_cons_succ,aZ,bB];rfl)))
  refine fB ?_
  intro w2 hb2
  refine dD (by kernel_rfl) ?_
  have m0_:=aD (bZ HB.out (aM HB.out) hb2)
  clear HB hb2
  have HB:=m0_
  clear m0_
  go_wp2_with (first|((with_reducible refine aW (N:=42) rfl ?_);refine Kd.R_lit gG _ 72 ?hg (N:=42) ?hd (xs:=([]:List vC)) (inner:=[]) (ok:=fun _=>True) (okp:=fun _=>True) ?hr ?hp (fun _ hk=>hk) trivial (Below.refl _ _) (Nat.le_refl _) (by simp) ?_;(case hd=>rfl);(case hg=>rfl);(case hr=>first|(go_simp;done)|(go_simp;rfl));(case hp=>exact (iE.none _ _));intro v9 w9 ho9 hb9 hg_ hnew_;have HO9:=aD (Kd.R_lower ho9 (aM HB.out));have HB9:=aD (aE HB.out hb9);clear hg_ hnew_ ho9 hb9))
  go_ret2
  exact ⟨_,rfl,HO9.out,HB9.out⟩
 | true =>
  rw [if_pos rfl] at h
  by_cases h6:q.length=6
  case neg=>rw [if_neg h6] at h;cases h
  rw [if_pos h6] at h
  obtain ⟨x,hx,h⟩:=iS h
  have H6:=aD h6
  have HAX:=aD (show spec_AreOnOne.f (aI q 0).f0 (aI q 0).f1 (aI q 0).f2 (aI q 1).f0 (aI q 1).f1 (aI q 1).f2 (aI q 2).f0 (aI q 2).f1 (aI q 2).f2=some x from hx)
  have HH:=aD h
  clear h6 hx h
  go_enter Try.func74,Try.ntmps74
  go_wp2_with (first|(go_at_call 122;(with_reducible refine (gL k A0 c0 l0 q true _ (Kd.C_below HR.out HB.out) HC.out HA1.out).mono ?_);rintro e w1 ⟨v1,rfl,ho1,hb1⟩;obtain ⟨A1,c1,rfl⟩:=Kd.R_slice ho1;have HQ:=aD ho1;have m0_:=aD (aE HB.out hb1);clear HB ho1 hb1;have HB:=m0_;clear m0_))
  generalize hw1:w1=W1 at HB HQ ⊢
  clear hw1
  obtain ⟨ad0,eA,hp0,hp1,hp2⟩:=dJ (Kd.R_reads' HQ.out).2.2 0 (by omega) (by have:=H6.out;omega)
  subst eA
  obtain ⟨ad1,eA,hp3,hp4,hp5⟩:=dJ (Kd.R_reads' HQ.out).2.2 1 (by omega) (by have:=H6.out;omega)
  cases eA
  obtain ⟨ad2,eA,hp6,hp7,hp8⟩:=dJ (Kd.R_reads' HQ.out).2.2 2 (by omega) (by have:=H6.out;omega)
  cases eA
  obtain ⟨ad3,eA,hp9,hp10,hp11⟩:=dJ (Kd.R_reads' HQ.out).2.2 3 (by omega) (by have:=H6.out;omega)
  cases eA
  obtain ⟨ad4,eA,hp12,hp13,hp14⟩:=dJ (Kd.R_reads' HQ.out).2.2 4 (by omega) (by have:=H6.out;omega)
  cases eA
  obtain ⟨ad5,eA,hp15,hp16,hp17⟩:=dJ (Kd.R_reads' HQ.out).2.2 5 (by omega) (by have:=H6.out;omega)
  cases eA
  simp only [Int.reduceToNat,Nat.reduceMul,Addr.add_zero'] at hp0 hp1 hp2
  simp only [Int.reduceToNat,Nat.reduceMul,Nat.reduceEqDiff,Nat.add_assoc,Nat.reduceAdd,Go.Addr.add,↓reduceIte] at hp3 hp4 hp5 hp6 hp7 hp8 hp9 hp10 hp11 hp12 hp13 hp14 hp15 hp16 hp17
  rw [H6.out]
  cases x with
  | true =>
   obtain ⟨rfl,rfl⟩:=Prod.mk.inj (Option.some.inj (show some (([]:List vC),false)=some (r1,r2) from by have:=HH.out;rwa [if_pos rfl] at this))
   refine dH (S:=fun w'=>Below W1.heap.size W1 w') 26 W1.heap.size [] (by kernel_rfl) (by kernel_rfl) (cB (Below.refl _ _)) (fun _ _ h1 h2=>h1.trans h2) (fun _ h1=>h1.size) ?_
   iterate 26 (first
    | (refine eH (v:=?_) (a':=?_) rfl rfl rfl rfl (by rfl) ?_ ?_ ?_;rotate_left 2;(· rintro w' hb';go_simp;with_reducible rfl);(· simp only [Act.put,List.setIfInBounds_toArray,List.set_cons_zero,List.set_cons_succ,aZ,bB];rfl))
    | (refine eH (v:=?_) (a':=?_) rfl rfl rfl rfl (by rfl) ?_ ?_ ?_;rotate_left 2;(· rintro w' hb';have s0:=aG hb' hp0;have s1:=aG hb' hp1;have s2:=aG hb' hp2;have s3:=aG hb' hp3;have s4:=aG hb' hp4;have s5:=aG hb' hp5;have s6:=aG hb' hp6;have s7:=aG hb' hp7;have s8:=aG hb' hp8;have s9:=aG hb' hp9;have s10:=aG hb' hp10;have s11:=aG hb' hp11;have s12:=aG hb' hp12;have s13:=aG hb' hp13;have s14:=aG hb' hp14;have s15:=aG hb' hp15;have s16:=aG hb' hp16;have s17:=aG hb' hp17;go_simp;with_reducible rfl);(· simp only [Act.put,List.setIfInBounds_toArray,List.set_cons_zero,List.set_cons_succ,aZ,bB];rfl))
    | (refine fZ (a':=?_) (.bool true) rfl rfl Try.func84 rfl rfl rfl (by rfl) (by kernel_rfl) rfl #[.agg #[.int .i64 (aI q 0).f0,.int .i64 (aI q 0).f1,.int .i64 (aI q 0).f2],.agg #[.int .i64 (aI q 1).f0,.int .i64 (aI q 1).f1,.int .i64 (aI q 1).f2],.agg #[.int .i64 (aI q 2).f0,.int .i64 (aI q 2).f1,.int .i64 (aI q 2).f2]] (by (try simp only [List.map_toArray,List.map_cons,List.map_nil]);rfl) ?_ ?_ ?_;rotate_left;(· rintro w' hb';with_reducible refine (bT _ _ _ _ _ _ _ _ _ _ _ HAX.out).mono ?_;rintro e w1 ⟨rfl,hb1⟩;exact ⟨rfl,hb1⟩);(· simp only [Act.put,List.setIfInBounds_toArray,List.set_cons_zero,List.set_cons_succ,aZ,bB];rfl))
    | (refine qG (a':=?_) rfl rfl rfl rfl (by rfl) ?_ ?_;rotate_left;(· simp only [Act.put,List.setIfInBounds_toArray,List.set_cons_zero,List.set_cons_succ,aZ,bB];rfl)))
   refine fB ?_
   intro w2 hb2
   refine dD (by kernel_rfl) ?_
   have m0_:=aD (bZ HB.out (aM HB.out) hb2)
   clear HB hb2
   have HB:=m0_
   clear m0_
   go_wp2_with (first|((with_reducible refine aW (N:=42) rfl ?_);refine Kd.R_lit gG _ 72 ?hg (N:=42) ?hd (xs:=([]:List vC)) (inner:=[]) (ok:=fun _=>True) (okp:=fun _=>True) ?hr ?hp (fun _ hk=>hk) trivial (Below.refl _ _) (Nat.le_refl _) (by simp) ?_;(case hd=>rfl);(case hg=>rfl);(case hr=>first|(go_simp;done)|(go_simp;rfl));(case hp=>exact (iE.none _ _));intro v9 w9 ho9 hb9 hg_ hnew_;have HO9:=aD (Kd.R_lower ho9 (aM HB.out));have HB9:=aD (aE HB.out hb9);clear hg_ hnew_ ho9 hb9))
   go_ret2
   exact ⟨_,rfl,HO9.out,HB9.out⟩
  | false =>
   have h:=HH.out
   rw [if_neg (by decide)] at h
   obtain ⟨y,hy,h⟩:=iS h
   have HAY:=aD (show spec_AreOnOne.f (aI q 3).f0 (aI q 3).f1 (aI q 3).f2 (aI q 4).f0 (aI q 4).f1 (aI q 4).f2 (aI q 5).f0 (aI q 5).f1 (aI q 5).f2=some y from hy)
   have HH2:=aD h
   clear h hy HH
   cases y with
   | true =>
    obtain ⟨rfl,rfl⟩:=Prod.mk.inj (Option.some.inj (show some (([]:List vC),false)=some (r1,r2) from by have:=HH2.out;rwa [if_pos rfl] at this))
    refine dH (S:=fun w'=>Below W1.heap.size W1 w') 26 W1.heap.size [] (by kernel_rfl) (by kernel_rfl) (cB (Below.refl _ _)) (fun _ _ h1 h2=>h1.trans h2) (fun _ h1=>h1.size) ?_
    iterate 26 (first
     | (refine eH (v:=?_) (a':=?_) rfl rfl rfl rfl (by rfl) ?_ ?_ ?_;rotate_left 2;(· rintro w' hb';go_simp;with_reducible rfl);(· simp only [Act.put,List.setIfInBounds_toArray,List.set_cons_zero,List.set_cons_succ,aZ,bB];rfl))
     | (refine eH (v:=?_) (a':=?_) rfl rfl rfl rfl (by rfl) ?_ ?_ ?_;rotate_left 2;(· rintro w' hb';have s0:=aG hb' hp0;have s1:=aG hb' hp1;have s2:=aG hb' hp2;have s3:=aG hb' hp3;have s4:=aG hb' hp4;have s5:=aG hb' hp5;have s6:=aG hb' hp6;have s7:=aG hb' hp7;have s8:=aG hb' hp8;have s9:=aG hb' hp9;have s10:=aG hb' hp10;have s11:=aG hb' hp11;have s12:=aG hb' hp12;have s13:=aG hb' hp13;have s14:=aG hb' hp14;have s15:=aG hb' hp15;have s16:=aG hb' hp16;have s17:=aG hb' hp17;go_simp;with_reducible rfl);(· simp only [Act.put,List.setIfInBounds_toArray,List.set_cons_zero,List.set_cons_succ,aZ,bB];rfl))
     | (refine fZ (a':=?_) (.bool false) rfl rfl Try.func84 rfl rfl rfl (by rfl) (by kernel_rfl) rfl #[.agg #[.int .i64 (aI q 0).f0,.int .i64 (aI q 0).f1,.int .i64 (aI q 0).f2],.agg #[.int .i64 (aI q 1).f0,.int .i64 (aI q 1).f1,.int .i64 (aI q 1).f2],.agg #[.int .i64 (aI q 2).f0,.int .i64 (aI q 2).f1,.int .i64 (aI q 2).f2]] (by (try simp only [List.map_toArray,List.map_cons,List.map_nil]);rfl) ?_ ?_ ?_;rotate_left;(· rintro w' hb';with_reducible refine (bT _ _ _ _ _ _ _ _ _ _ _ HAX.out).mono ?_;rintro e w1 ⟨rfl,hb1⟩;exact ⟨rfl,hb1⟩);(· simp only [Act.put,List.setIfInBounds_toArray,List.set_cons_zero,List.set_cons_succ,aZ,bB];rfl))
     | (refine fZ (a':=?_) (.bool true) rfl rfl Try.func84 rfl rfl rfl (by rfl) (by kernel_rfl) rfl #[.agg #[.int .i64 (aI q 3).f0,.int .i64 (aI q 3).f1,.int .i64 (aI q 3).f2],.agg #[.int .i64 (aI q 4).f0,.int .i64 (aI q 4).f1,.int .i64 (aI q 4).f2],.agg #[.int .i64 (aI q 5).f0,.int .i64 (aI q 5).f1,.int .i64 (aI q 5).f2]] (by (try simp only [List.map_toArray,List.map_cons,List.map_nil]);rfl) ?_ ?_ ?_;rotate_left;(· rintro w' hb';with_reducible refine (bT _ _ _ _ _ _ _ _ _ _ _ HAY.out).mono ?_;rintro e w1 ⟨rfl,hb1⟩;exact ⟨rfl,hb1⟩);(· simp only [Act.put,List.setIfInBounds_toArray,List.set_cons_zero,List.set_cons_succ,aZ,bB];rfl))
     | (refine qG (a':=?_) rfl rfl rfl rfl (by rfl) ?_ ?_;rotate_left;(· simp only [Act.put,List.setIfInBounds_toArray,List.set_cons_zero,List.set_cons_succ,aZ,bB];rfl)))
    refine fB ?_
    intro w2 hb2
    refine dD (by kernel_rfl) ?_
    have m0_:=aD (bZ HB.out (aM HB.out) hb2)
    clear HB hb2
    have HB:=m0_
    clear m0_
    go_wp2_with (first|((with_reducible refine aW (N:=42) rfl ?_);refine Kd.R_lit gG _ 72 ?hg (N:=42) ?hd (xs:=([]:List vC)) (inner:=[]) (ok:=fun _=>True) (okp:=fun _=>True) ?hr ?hp (fun _ hk=>hk) trivial (Below.refl _ _) (Nat.le_refl _) (by simp) ?_;(case hd=>rfl);(case hg=>rfl);(case hr=>first|(go_simp;done)|(go_simp;rfl));(case hp=>exact (iE.none _ _));intro v9 w9 ho9 hb9 hg_ hnew_;have HO9:=aD (Kd.R_lower ho9 (aM HB.out));have HB9:=aD (aE HB.out hb9);clear hg_ hnew_ ho9 hb9))
    go_ret2
    exact ⟨_,rfl,HO9.out,HB9.out⟩
   | false =>
    have H':=aD (show dE k q [] 0=some (r1,r2) from by have:=HH2.out;rwa [if_neg (by decide)] at this)
    clear HH2
    refine dH (S:=fun w'=>Below W1.heap.size W1 w') 26 W1.heap.size [] (by kernel_rfl) (by kernel_rfl) (cB (Below.refl _ _)) (fun _ _ h1 h2=>h1.trans h2) (fun _ h1=>h1.size) ?_
    iterate 26 (first
     | (refine eH (v:=?_) (a':=?_) rfl rfl rfl rfl (by rfl) ?_ ?_ ?_;rotate_left 2;(· rintro w' hb';go_simp;with_reducible rfl);(· simp only [Act.put,List.setIfInBounds_toArray,List.set_cons_zero,List.set_cons_succ,aZ,bB];rfl))
     | (refine eH (v:=?_) (a':=?_) rfl rfl rfl rfl (by rfl) ?_ ?_ ?_;rotate_left 2;(· rintro w' hb';have s0:=aG hb' hp0;have s1:=aG hb' hp1;have s2:=aG hb' hp2;have s3:=aG hb' hp3;have s4:=aG hb' hp4;have s5:=aG hb' hp5;have s6:=aG hb' hp6;have s7:=aG hb' hp7;have s8:=aG hb' hp8;have s9:=aG hb' hp9;have s10:=aG hb' hp10;have s11:=aG hb' hp11;have s12:=aG hb' hp12;have s13:=aG hb' hp13;have s14:=aG hb' hp14;have s15:=aG hb' hp15;have s16:=aG hb' hp16;have s17:=aG hb' hp17;go_simp;with_reducible rfl);(· simp only [Act.put,List.setIfInBounds_toArray,List.set_cons_zero,List.set_cons_succ,aZ,bB];rfl))
     | (refine fZ (a':=?_) (.bool false) rfl rfl Try.func84 rfl rfl rfl (by rfl) (by kernel_rfl) rfl #[.agg #[.int .i64 (aI q 0).f0,.int .i64 (aI q 0).f1,.int .i64 (aI q 0).f2],.agg #[.int .i64 (aI q 1).f0,.int .i64 (aI q 1).f1,.int .i64 (aI q 1).f2],.agg #[.int .i64 (aI q 2).f0,.int .i64 (aI q 2).f1,.int .i64 (aI q 2).f2]] (by (try simp only [List.map_toArray,List.map_cons,List.map_nil]);rfl) ?_ ?_ ?_;rotate_left;(· rintro w' hb';with_reducible refine (bT _ _ _ _ _ _ _ _ _ _ _ HAX.out).mono ?_;rintro e w1 ⟨rfl,hb1⟩;exact ⟨rfl,hb1⟩);(· simp only [Act.put,List.setIfInBounds_toArray,List.set_cons_zero,List.set_cons_succ,aZ,bB];rfl))
     | (refine fZ (a':=?_) (.bool false) rfl rfl Try.func84 rfl rfl rfl (by rfl) (by kernel_rfl) rfl #[.agg #[.int .i64 (aI q 3).f0,.int .i64 (aI q 3).f1,.int .i64 (aI q 3).f2],.agg #[.int .i64 (aI q 4).f0,.int .i64 (aI q 4).f1,.int .i64 (aI q 4).f2],.agg #[.int .i64 (aI q 5).f0,.int .i64 (aI q 5).f1,.int .i64 (aI q 5).f2]] (by (try simp only [List.map_toArray,List.map_cons,List.map_nil]);rfl) ?_ ?_ ?_;rotate_left;(· rintro w' hb';with_reducible refine (bT _ _ _ _ _ _ _ _ _ _ _ HAY.out).mono ?_;rintro e w1 ⟨rfl,hb1⟩;exact ⟨rfl,hb1⟩);(· simp only [Act.put,List.setIfInBounds_toArray,List.set_cons_zero,List.set_cons_succ,aZ,bB];rfl))
     | (refine qG (a':=?_) rfl rfl rfl rfl (by rfl) ?_ ?_;rotate_left;(· simp only [Act.put,List.setIfInBounds_toArray,List.set_cons_zero,List.set_cons_succ,aZ,bB];rfl)))
    refine fB ?_
    intro w2 hb2
    refine dD (by kernel_rfl) ?_
    have m0_:=aD (bZ HB.out (aM HB.out) hb2)
    have m1_:=aD (Kd.R_below HQ.out hb2)
    clear HB hb2 HQ
    have HB:=m0_
    have HQ:=m1_
    clear m0_ m1_ hp0 hp1 hp2 hp3 hp4 hp5 hp6 hp7 hp8 hp9 hp10 hp11 hp12 hp13 hp14 hp15 hp16 hp17 HAX HAY
    generalize hw2:w2=W2 at HB HQ ⊢
    clear hw2
    go_wp2_with (first|((with_reducible refine aW (N:=43) rfl ?_);refine Kd.R_lit gG _ 72 ?hg (N:=43) ?hd (xs:=([]:List vC)) (inner:=[]) (ok:=fun k_=>k_=W2.heap.size) (okp:=fun k_=>k_=W2.heap.size) ?hr ?hp (fun _ hk=>hk) rfl (Below.refl _ _) (Nat.le_refl _) (by simp) ?_;(case hd=>rfl);(case hg=>rfl);(case hr=>first|(go_simp;done)|(go_simp;rfl));(case hp=>exact (iE.none _ _));intro v9 w9 ho9 hb9 hg_ hnew_;have HO9:=aD (Kd.R_lower ho9 (aM HB.out));have HB9:=aD (aE HB.out hb9);have HS9:=aD hb9;clear hg_ hnew_ ho9 hb9))
    have HP:=aD (yC w9)
    have HQ9:=aD (Kd.R_below HQ.out HS9.out)
    have HQB:=aD (show ∀ b,(Value.slice (some ad0) q.length c1).ownBlock=some b→b<W2.heap.size from fun b hb=>((Kd.R_bound HQ.out).1 b hb).2.2.1)
    have HO5:=aD (fK (fK (fK (fK (Kd.R_mono (Kd.R_bound HO9.out) (ok':=fun k_=>some k_≠(Value.slice (some ad0) q.length c1).ownBlock∧(k_<w9.heap.size∨w9.heap.size+4≤k_)) (fun k_ hk=>⟨fun e_=>by have h9:=HQB.out k_ e_.symm;have h8:=hk.1;omega,.inl hk.2.2.1⟩)) (.cells #[.int .i64 0,.int .i64 1] 3)) (.cells #[.int .i64 0,.int .i64 2] 3)) (.cells #[.int .i64 1,.int .i64 2] 3)) (.cells #[.slice (some ⟨w9.heap.size,0,none⟩) 2 2,.slice (some ⟨w9.heap.size+1,0,none⟩) 2 2,.slice (some ⟨w9.heap.size+1+1,0,none⟩) 2 2] 29))
    have HQ5:=aD (fK (fK (fK (fK HQ9.out (.cells #[.int .i64 0,.int .i64 1] 3)) (.cells #[.int .i64 0,.int .i64 2] 3)) (.cells #[.int .i64 1,.int .i64 2] 3)) (.cells #[.slice (some ⟨w9.heap.size,0,none⟩) 2 2,.slice (some ⟨w9.heap.size+1,0,none⟩) 2 2,.slice (some ⟨w9.heap.size+1+1,0,none⟩) 2 2] 29))
    have HB5:=aD (qH (qH (qH (qH HB9.out (.cells #[.int .i64 0,.int .i64 1] 3)) (.cells #[.int .i64 0,.int .i64 2] 3)) (.cells #[.int .i64 1,.int .i64 2] 3)) (.cells #[.slice (some ⟨w9.heap.size,0,none⟩) 2 2,.slice (some ⟨w9.heap.size+1,0,none⟩) 2 2,.slice (some ⟨w9.heap.size+1+1,0,none⟩) 2 2] 29))
    have HQG:=aD (show ∀ b,(Value.slice (some ad0) q.length c1).ownBlock=some b→b<w9.heap.size from fun b hb=>((Kd.R_bound HQ9.out).1 b hb).2.2.1)
    have HGW:=aD (aM HB9.out)
    clear HO9 HQ9 HB9 HS9 HQB HB HQ
    rw [show w9.heap.size+1+1+1=w9.heap.size+3 from rfl]
    generalize ((((w9.alloc (.cells #[.int .i64 0,.int .i64 1] 3)).alloc (.cells #[.int .i64 0,.int .i64 2] 3)).alloc (.cells #[.int .i64 1,.int .i64 2] 3)).alloc (.cells #[.slice (some ⟨w9.heap.size,0,none⟩) 2 2,.slice (some ⟨w9.heap.size+1,0,none⟩) 2 2,.slice (some ⟨w9.heap.size+1+1,0,none⟩) 2 2] 29))=W5 at HP HO5 HQ5 HB5 ⊢
    generalize w9.heap.size=g at HP HO5 HQG HGW ⊢
    go_loopg [6,8] k (fun kq v6 v8 wr=>∃ (out:List vC) (i:Nat),v8=.int .i64 i∧i≤3∧Aside0 (dE kq q out i=some (r1,r2))∧Aside0 (kq≤k)∧Aside0 (Kd.R gG 72 wr w.heap.size (fun k_=>some k_≠(Value.slice (some ad0) q.length c1).ownBlock∧(k_<g∨g+4≤k_)) v6 out)∧Aside0 (Kd.R gG 72 wr w.heap.size (fun _=>True) (.slice (some ad0) q.length c1) q)∧Aside0 (tI wr g)∧Aside0 (Below w.heap.size w wr))
    case atStart=>exact ⟨[],0,rfl,Nat.zero_le _,H',⟨Nat.le_refl _⟩,HO5,HQ5,HP,HB5⟩
    case round =>
     clear HB5 HO5 HQ5 HP H'
     obtain ⟨out,i,rfl,hil,HA,HK1,HO,HQ,HP,HB⟩:=hrel
     cases gk with
     | zero=>exact absurd HA.out (by simp [dE])
     | succ k1 =>
      have H:=HA.out
      clear HA
      simp only [dE] at H
      by_cases hlt:i<3
      ·rw [if_pos hlt] at H
       have hltz:(i:Int)<3:=by omega
       obtain ⟨⟨t1,t2,t3⟩,ht,H⟩:=iS H
       obtain ⟨⟨u1,u2,u3'⟩,hu,H⟩:=iS H
       obtain ⟨b,hb,H⟩:=iS H
       obtain ⟨hf0,hf1,hf2⟩:=HP.out.1 i hlt
       have hab:jI i<3∧jJ i<3:=by unfold jI jJ;constructor <;> split <;> decide
       obtain ⟨za,hza⟩:∃ z:Int,(jI i:Int)=z:=⟨_,rfl⟩
       obtain ⟨zb,hzb⟩:∃ z:Int,(jJ i:Int)=z:=⟨_,rfl⟩
       rw [hza,hzb] at ht hu
       rw [hza] at hf0
       rw [hzb] at hf1
       obtain ⟨z2,hz2⟩:∃ z,3+za=z:=⟨_,rfl⟩
       obtain ⟨z3,hz3⟩:∃ z,3+zb=z:=⟨_,rfl⟩
       rw [hz2,hz3] at hu
       have HGE:=aD (show (0≤za∧za<3∧0≤zb∧zb<3)∧0≤z2∧z2<6∧0≤z3∧z3<6 by omega)
       have HWa:=aD (show wrap64 (3+za)=z2 by have:=HGE.out;unfold wrap64;omega)
       have HWb:=aD (show wrap64 (3+zb)=z3 by have:=HGE.out;unfold wrap64;omega)
       have HT:=aD (show spec_CrossOf.f k1 (aI q za).f0 (aI q za).f1 (aI q za).f2 (aI q zb).f0 (aI q zb).f1 (aI q zb).f2=some (t1,t2,t3) from ht)
       have HU:=aD (show spec_CrossOf.f k1 (aI q z2).f0 (aI q z2).f1 (aI q z2).f2 (aI q z3).f0 (aI q z3).f1 (aI q z3).f2=some (u1,u2,u3') from hu)
       have HQQ:=aD hb
       have HF:=aD H
       clear ht hu hb H hza hzb hz2 hz3 hab
       obtain ⟨ad10,eA,hq0,hq1,hq2⟩:=dJ (Kd.R_reads' HQ.out).2.2 za (by have:=HGE.out;omega) (by have:=HGE.out;have:=H6.out;omega)
       cases eA
       obtain ⟨ad11,eA,hq3,hq4,hq5⟩:=dJ (Kd.R_reads' HQ.out).2.2 zb (by have:=HGE.out;omega) (by have:=HGE.out;have:=H6.out;omega)
       cases eA
       obtain ⟨ad12,eA,hq6,hq7,hq8⟩:=dJ (Kd.R_reads' HQ.out).2.2 z2 (by have:=HGE.out;omega) (by have:=HGE.out;have:=H6.out;omega)
       cases eA
       obtain ⟨ad13,eA,hq9,hq10,hq11⟩:=dJ (Kd.R_reads' HQ.out).2.2 z3 (by have:=HGE.out;omega) (by have:=HGE.out;have:=H6.out;omega)
       cases eA
       have hl0:(0≤za)=True:=eq_true (by have:=HGE.out;omega)
       have hu0:(za<6)=True:=eq_true (by have:=HGE.out;omega)
       have hl1:(0≤zb)=True:=eq_true (by have:=HGE.out;omega)
       have hu1:(zb<6)=True:=eq_true (by have:=HGE.out;omega)
       have hl2:(0≤z2)=True:=eq_true (by have:=HGE.out;omega)
       have hu2:(z2<6)=True:=eq_true (by have:=HGE.out;omega)
       have hl3:(0≤z3)=True:=eq_true (by have:=HGE.out;omega)
       have hu3:(z3<6)=True:=eq_true (by have:=HGE.out;omega)
       go_wp2_with fail
       refine dH (S:=fun w'=>Below wr.heap.size wr w') 21 wr.heap.size [(19,20)] (by kernel_rfl) (by kernel_rfl) (cB (Below.refl _ _)) (fun _ _ h1 h2=>h1.trans h2) (fun _ h1=>h1.size) ?_
       iterate 21 (first
        | (refine eH (v:=?_) (a':=?_) rfl rfl rfl rfl (by rfl) ?_ ?_ ?_;rotate_left 2;(· rintro w' hb';go_simp;with_reducible rfl);(· simp only [Act.put,List.setIfInBounds_toArray,List.set_cons_zero,List.set_cons_succ,aZ,bB];rfl))
        | (refine eH (v:=?_) (a':=?_) rfl rfl rfl rfl (by rfl) ?_ ?_ ?_;rotate_left 2;(· rintro w' hb';have s0:=aG hb' hf0;have s1:=aG hb' hf1;have s2:=aG hb' hf2;have s3:=aG hb' hq0;have s4:=aG hb' hq1;have s5:=aG hb' hq2;have s6:=aG hb' hq3;have s7:=aG hb' hq4;have s8:=aG hb' hq5;go_simp;with_reducible rfl);(· simp only [Act.put,List.setIfInBounds_toArray,List.set_cons_zero,List.set_cons_succ,aZ,bB];rfl))
        | (refine fZ (a':=?_) (.agg #[.int .i64 t1,.int .i64 t2,.int .i64 t3]) rfl rfl Try.func82 rfl rfl rfl (by rfl) (by kernel_rfl) rfl #[.agg #[.int .i64 (aI q za).f0,.int .i64 (aI q za).f1,.int .i64 (aI q za).f2],.agg #[.int .i64 (aI q zb).f0,.int .i64 (aI q zb).f1,.int .i64 (aI q zb).f2]] (by (try simp only [List.map_toArray,List.map_cons,List.map_nil]);rfl) ?_ ?_ ?_;rotate_left;(· rintro w' hb';with_reducible refine (aH k1 _ _ _ _ _ _ t1 t2 t3 _ HT.out).mono ?_;rintro e w1 ⟨rfl,hb1⟩;exact ⟨rfl,hb1⟩);(· simp only [Act.put,List.setIfInBounds_toArray,List.set_cons_zero,List.set_cons_succ,aZ,bB];rfl))
        | (refine lD #[.int .i64 0,.int .i64 0,.int .i64 0] 72 (some (20,#[.int .i64 t1,.int .i64 t2,.int .i64 t3])) rfl rfl rfl rfl (by rfl) ?_ ?_;(· rintro w' hb';first|(go_simp;done)|(go_simp;rfl)))
        | (refine lE 0 rfl rfl rfl rfl rfl rfl (fun g=>by rfl) ?_ ?_;(· rintro g w' hb' hg hn;have hs0:=(bJ hg 0).trans rfl;have hs1:=(bJ hg 1).trans rfl;have hs2:=(bJ hg 2).trans rfl;have hf0:=aC hg 0;have hf1:=aC hg 1;have hf2:=aC hg 2;refine ⟨_,?_,(gB hg _ _ _).1,(gB hg _ _ _).2⟩;first|(go_simp;done)|(go_simp;rfl))))
       refine fB ?_
       intro w5 hb5 g1 _ h1 _
       refine dD (by kernel_rfl) ?_
       have HG1:=aD h1
       have HB5:=aD (bZ HB.out (aM HB.out) hb5)
       have HO5:=aD (Kd.R_below HO.out hb5)
       have HQ5:=aD (Kd.R_below HQ.out hb5)
       have HP5:=aD (HP.out.to hb5.size (fun k_ _ hk_=>hb5.block k_ (by have:=HP.out.2;omega)))
       replace hf0:=aG hb5 hf0
       replace hf1:=aG hb5 hf1
       replace hf2:=aG hb5 hf2
       replace hq0:=aG hb5 hq0
       replace hq1:=aG hb5 hq1
       replace hq2:=aG hb5 hq2
       replace hq3:=aG hb5 hq3
       replace hq4:=aG hb5 hq4
       replace hq5:=aG hb5 hq5
       replace hq6:=aG hb5 hq6
       replace hq7:=aG hb5 hq7
       replace hq8:=aG hb5 hq8
       replace hq9:=aG hb5 hq9
       replace hq10:=aG hb5 hq10
       replace hq11:=aG hb5 hq11
       clear hb5 h1 HB HO HQ HP
       go_wp2_with fail
       refine dH (S:=fun w'=>Below w5.heap.size w5 w') 23 w5.heap.size [(21,22)] (by kernel_rfl) (by kernel_rfl) (cB (Below.refl _ _)) (fun _ _ h1 h2=>h1.trans h2) (fun _ h1=>h1.size) ?_
       iterate 23 (first
        | (refine eH (v:=.int .i64 z2) (a':=?_) rfl rfl rfl rfl (by rfl) ?_ ?_ ?_;rotate_left 1;(· rintro w' hb';go_simp;exact (aZ _).trans HWa.out);(· simp only [Act.put,List.setIfInBounds_toArray,List.set_cons_zero,List.set_cons_succ,aZ,bB];rfl))
        | (refine eH (v:=.int .i64 z3) (a':=?_) rfl rfl rfl rfl (by rfl) ?_ ?_ ?_;rotate_left 1;(· rintro w' hb';go_simp;exact (aZ _).trans HWb.out);(· simp only [Act.put,List.setIfInBounds_toArray,List.set_cons_zero,List.set_cons_succ,aZ,bB];rfl))
        | (refine eH (v:=?_) (a':=?_) rfl rfl rfl rfl (by rfl) ?_ ?_ ?_;rotate_left 2;(· rintro w' hb';go_simp;with_reducible rfl);(· simp only [Act.put,List.setIfInBounds_toArray,List.set_cons_zero,List.set_cons_succ,aZ,bB];rfl))
        | (refine eH (v:=?_) (a':=?_) rfl rfl rfl rfl (by rfl) ?_ ?_ ?_;rotate_left 2;(· rintro w' hb';have s0:=aG hb' hf0;have s1:=aG hb' hf1;have s2:=aG hb' hf2;have s3:=aG hb' hq6;have s4:=aG hb' hq7;have s5:=aG hb' hq8;have s6:=aG hb' hq9;have s7:=aG hb' hq10;have s8:=aG hb' hq11;go_simp;with_reducible rfl);(· simp only [Act.put,List.setIfInBounds_toArray,List.set_cons_zero,List.set_cons_succ,aZ,bB];rfl))
        | (refine fZ (a':=?_) (.agg #[.int .i64 u1,.int .i64 u2,.int .i64 u3']) rfl rfl Try.func82 rfl rfl rfl (by rfl) (by kernel_rfl) rfl #[.agg #[.int .i64 (aI q z2).f0,.int .i64 (aI q z2).f1,.int .i64 (aI q z2).f2],.agg #[.int .i64 (aI q z3).f0,.int .i64 (aI q z3).f1,.int .i64 (aI q z3).f2]] (by (try simp only [List.map_toArray,List.map_cons,List.map_nil]);rfl) ?_ ?_ ?_;rotate_left;(· rintro w' hb';with_reducible refine (aH k1 _ _ _ _ _ _ u1 u2 u3' _ HU.out).mono ?_;rintro e w1 ⟨rfl,hb1⟩;exact ⟨rfl,hb1⟩);(· simp only [Act.put,List.setIfInBounds_toArray,List.set_cons_zero,List.set_cons_succ,aZ,bB];rfl))
        | (refine lD #[.int .i64 0,.int .i64 0,.int .i64 0] 72 (some (22,#[.int .i64 u1,.int .i64 u2,.int .i64 u3'])) rfl rfl rfl rfl (by rfl) ?_ ?_;(· rintro w' hb';first|(go_simp;done)|(go_simp;rfl)))
        | (refine lE 0 rfl rfl rfl rfl rfl rfl (fun g=>by rfl) ?_ ?_;(· rintro g w' hb' hg hn;have hs0:=(bJ hg 0).trans rfl;have hs1:=(bJ hg 1).trans rfl;have hs2:=(bJ hg 2).trans rfl;have hf0:=aC hg 0;have hf1:=aC hg 1;have hf2:=aC hg 2;refine ⟨_,?_,(gB hg _ _ _).1,(gB hg _ _ _).2⟩;first|(go_simp;done)|(go_simp;rfl))))
       refine fB ?_
       intro w6 hb6 g2 _ h2 _
       refine dD (by kernel_rfl) ?_
       have HG1':=aD ((hb6.block g1 (Array.getElem?_eq_some_iff.1 HG1.out).1).trans HG1.out)
       have HG2:=aD h2
       have HB6:=aD (bZ HB5.out (aM HB5.out) hb6)
       have HO6:=aD (Kd.R_below HO5.out hb6)
       have HQ6:=aD (Kd.R_below HQ5.out hb6)
       have HP6:=aD (HP5.out.to hb6.size (fun k_ _ hk_=>hb6.block k_ (by have:=HP5.out.2;omega)))
       clear hb6 h2 HG1 HB5 HO5 HQ5 HP5 hf0 hf1 hf2 hq0 hq1 hq2 hq3 hq4 hq5 hq6 hq7 hq8 hq9 hq10 hq11 hl0 hl1 hl2 hl3 hu0 hu1 hu2 hu3
       have hg10:w6.cell? ⟨g1,0,none⟩=some (.int .i64 t1):=by simp [World.cell?,HG1'.out,cH]
       have hg11:w6.cell? ⟨g1,1,none⟩=some (.int .i64 t2):=by simp [World.cell?,HG1'.out,cH]
       have hg12:w6.cell? ⟨g1,2,none⟩=some (.int .i64 t3):=by simp [World.cell?,HG1'.out,cH]
       have hg20:w6.cell? ⟨g2,0,none⟩=some (.int .i64 u1):=by simp [World.cell?,HG2.out,cH]
       have hg21:w6.cell? ⟨g2,1,none⟩=some (.int .i64 u2):=by simp [World.cell?,HG2.out,cH]
       have hg22:w6.cell? ⟨g2,2,none⟩=some (.int .i64 u3'):=by simp [World.cell?,HG2.out,cH]
       cases b with
       | true =>
        obtain ⟨rfl,rfl⟩:=Prod.mk.inj (Option.some.inj (show some (([]:List vC),false)=some (r1,r2) from by have:=HF.out;rwa [if_pos rfl] at this))
        go_wp2_with (first
         | (go_at_call 123;(with_reducible refine (cN k1 _ _ _ _ _ _ true _ HQQ.out).mono ?_);rintro e w7 ⟨rfl,hb7⟩;have HB7:=aD (aE HB6.out hb7);clear hb7)
         | ((with_reducible refine aW (N:=95) rfl ?_);refine Kd.R_lit gG _ 72 ?hg (N:=95) ?hd (xs:=([]:List vC)) (inner:=[]) (ok:=fun _=>True) (okp:=fun _=>True) ?hr ?hp (fun _ hk=>hk) trivial (Below.refl _ _) (Nat.le_refl _) (by simp) ?_;(case hd=>rfl);(case hg=>rfl);(case hr=>first|(go_simp;done)|(go_simp;rfl));(case hp=>exact (iE.none _ _));intro v9 w9 ho9 hb9 hg_ hnew_;have HO9:=aD (Kd.R_lower ho9 (aM HB7.out));have HB9:=aD (aE HB7.out hb9);clear hg_ hnew_ ho9 hb9))
        go_ret2
        exact ⟨_,rfl,HO9.out,HB9.out⟩
       | false =>
        have H:=HF.out
        rw [if_neg (by decide)] at H
        obtain ⟨⟨c1',c2,c3'⟩,hc,H⟩:=iS H
        by_cases hol:out.length<1000000
        case neg=>rw [if_neg hol] at H;cases H
        rw [if_pos hol] at H
        have HCR:=aD hc
        have HOL:=aD hol
        have H':=aD H
        clear HF hc hol H
        go_wp2_with (first
         | (go_at_call 123;(with_reducible refine (cN k1 _ _ _ _ _ _ false _ HQQ.out).mono ?_);rintro e w7 ⟨rfl,hb7⟩;have HB7:=aD (aE HB6.out hb7);have HO7:=aD (Kd.R_below HO6.out hb7);have HQ7:=aD (Kd.R_below HQ6.out hb7);have HP7:=aD (HP6.out.to hb7.size (fun k_ _ hk_=>hb7.block k_ (by have:=HP6.out.2;omega)));have k10:=aG hb7 hg10;have k11:=aG hb7 hg11;have k12:=aG hb7 hg12;have k20:=aG hb7 hg20;have k21:=aG hb7 hg21;have k22:=aG hb7 hg22;clear hb7 HB6 HO6 HQ6 HP6 hg10 hg11 hg12 hg20 hg21 hg22)
         | (go_at_call 82;(with_reducible refine (aH k1 _ _ _ _ _ _ c1' c2 c3' _ HCR.out).mono ?_);rintro e w8 ⟨rfl,hb8⟩;have HB8:=aD (aE HB7.out hb8);have HO8:=aD (Kd.R_below HO7.out hb8);have HQ8:=aD (Kd.R_below HQ7.out hb8);have HP8:=aD (HP7.out.to hb8.size (fun k_ _ hk_=>hb8.block k_ (by have:=HP7.out.2;omega)));clear hb8 HB7 HO7 HQ7 HP7)
         | ((with_reducible refine fL (b:=.append) (xs:=#[.tmp 96,.tmp 100]) rfl ?_);at_builtin;refine Kd.R_append gG (w0:=w) w.heap.size rfl (.tmp 96) (.tmp 100) 65 72 (.agg #[(.int .i64 0),(.int .i64 0),(.int .i64 0)]) 24 rfl Try.underlying65 rW rfl (by decide) (by omega) u6 out (⟨c1',c2,c3'⟩:vC) [.int .i64 c1',.int .i64 c2,.int .i64 c3'] (fun k_=>some k_≠(Value.slice (some ad0) q.length c1).ownBlock∧(k_<g∨g+4≤k_)) (fun _=>False) rfl rfl ?aP (fun _ hk=>hk.elim) ?aF HO8.out HB8.out (aM HB8.out) ?aL ?_;(case aP=>exact fM _ _ _ (⟨c1',c2,c3'⟩:vC));(case aF=>exact (fun k_ hk=>⟨fun e_=>by have h9:=((Kd.R_bound HQ8.out).1 k_ e_.symm).2.2.1;omega,.inr (by have:=HP8.out.2;omega)⟩));(case aL=>have:=HOL.out;omega);intro v9 w9 ho hb hg hat;have HB9:=aD hb;have HO9:=aD ho;have HQ9:=aD (Kd.R_grown2 HQ8.out rfl hg (fun k_ hk_=>(HO8.out.1 k_ hk_).1));have HP9:=aD (HP8.out.to hg.size (fun k_ hk1 hk2=>hg.block k_ (by have:=HP8.out.2;omega) (fun e_=>by have h9:=(HO8.out.1 k_ e_.symm).2;omega)));clear ho hb hg hat HB8 HO8 HQ8 HP8))
        go_roundg k1
        case measure=>have:=HK1.out;omega
        case rel=>exact ⟨out++[⟨c1',c2,c3'⟩],i+1,by have e9:wrap64 ((i:Int)+1)=((i+1:Nat):Int):=(by unfold wrap64;omega);first|rfl|exact congrArg (Value.int IntTy.i64) e9|exact congrArg (Value.int IntTy.i64) ((aZ _).trans e9)|exact congrArg (Value.int IntTy.i64) (by omega),by omega,H',⟨by have:=HK1.out;omega⟩,HO9,HQ9,HP9,HB9⟩
      ·have hltz:¬ (i:Int)<3:=by omega
       rw [if_neg hlt] at H
       obtain ⟨rfl,rfl⟩:=Prod.mk.inj (Option.some.inj H)
       have HOZ:=aD (Kd.R_mono HO.out (ok':=fun _=>True) (fun _ _=>trivial))
       clear H HQ HO HP
       go_wp2
       go_ret2
       exact ⟨_,rfl,HOZ.out,HB.out⟩
/-! ### spec_ArePerspective: function 64 -/
def spec_ArePerspective.f (k:Nat) (l0:List dB):Option Bool:=(spec_DesarguesOf.f k l0).bind fun s=>if s.2=true then (spec_l26Six.f k l0).bind fun p=>(if p.1.length=6 then (qI k (tr p.1 0) (tr p.1 3)).bind fun x=>(qI k (tr p.1 1) (tr p.1 4)).bind fun y=>(qI k (tr p.1 2) (tr p.1 5)).bind fun z=>(spec_l26Equal.f k x.1 x.2.1 x.2.2 y.1 y.2.1 y.2.2).bind fun b1=>(if b1=true then some false else (spec_l26Equal.f k x.1 x.2.1 x.2.2 z.1 z.2.1 z.2.2).bind fun b2=>(if b2=true then some false else (spec_l26Equal.f k y.1 y.2.1 y.2.2 z.1 z.2.1 z.2.2).bind fun b3=>(if b3=true then some false else spec_AreOnOne.f x.1 x.2.1 x.2.2 y.1 y.2.1 y.2.2 z.1 z.2.1 z.2.2))) else none) else some false
set_option maxHeartbeats 4000000 in
set_option maxRecDepth 100000 in
theorem lF (k:Nat) (A0:Option Addr) (c0:Nat) (l0:List dB) (r:Bool) (w:World) (hr0:Kd.C gA w A0 l0.length l0) (hc0:l0.length≤c0) (h:spec_ArePerspective.f k l0=some r) :
  Calls Try.prog 64 #[.slice A0 l0.length c0] w fun e w'=>e=.returned (.bool r)∧Below w.heap.size w w':=by
 have HR:=aD hr0
 have HC:=aD hc0
 have HB:=aD (Below.refl w.heap.size w)
 unfold spec_ArePerspective.f at h
 obtain ⟨⟨q0,b0⟩,hd,h⟩:=iS h
 have HD:=aD hd
 clear hr0 hc0 hd
 have hup:=Try.underlying80
 have hut:=Try.underlying72
 cases b0 with
 | false =>
  obtain rfl:=Option.some.inj (show some false=some r from h)
  clear h
  go_enter Try.func64,Try.ntmps64
  go_wp2_with (go_at_call 74;(with_reducible refine (gW k A0 c0 l0 q0 false _ (Kd.C_below HR.out HB.out) HC.out HD.out).mono ?_);rintro e w1 ⟨v1_,rfl,_,hb1⟩;have m0_:=aD (aE HB.out hb1);clear HB;have HB:=m0_;clear m0_;clear hb1)
  go_ret
  exact ⟨rfl,HB.out⟩
 | true =>
  rw [if_pos rfl] at h
  obtain ⟨⟨q,b⟩,hs,h⟩:=iS h
  by_cases h6:q.length=6
  case neg=>rw [if_neg h6] at h;cases h
  rw [if_pos h6] at h
  obtain ⟨⟨t1,t2,t3⟩,ht,h⟩:=iS h
  obtain ⟨⟨u1,u2,u3'⟩,hu,h⟩:=iS h
  obtain ⟨⟨v1,v2,v3⟩,hv,h⟩:=iS h
  obtain ⟨b1,hb_,h⟩:=iS h
  have H6:=aD h6
  have HS:=aD hs
  have HT:=aD (show spec_CrossOf.f k (aI q 0).f0 (aI q 0).f1 (aI q 0).f2 (aI q 3).f0 (aI q 3).f1 (aI q 3).f2=some (t1,t2,t3) from ht)
  have HU:=aD (show spec_CrossOf.f k (aI q 1).f0 (aI q 1).f1 (aI q 1).f2 (aI q 4).f0 (aI q 4).f1 (aI q 4).f2=some (u1,u2,u3') from hu)
  have HV:=aD (show spec_CrossOf.f k (aI q 2).f0 (aI q 2).f1 (aI q 2).f2 (aI q 5).f0 (aI q 5).f1 (aI q 5).f2=some (v1,v2,v3) from hv)
  have HE0:=aD (show spec_l26Equal.f k t1 t2 t3 u1 u2 u3'=some b1 from hb_)
  have HF:=aD h
  clear h6 hs ht hu hv hb_ h
  go_enter Try.func64,Try.ntmps64
  go_wp2_with (first
   | (go_at_call 74;(with_reducible refine (gW k A0 c0 l0 q0 true _ (Kd.C_below HR.out HB.out) HC.out HD.out).mono ?_);rintro e w1 ⟨v1_,rfl,_,hb1⟩;have m0_:=aD (aE HB.out hb1);clear HB;have HB:=m0_;clear m0_;clear hb1)
   | (go_at_call 122;(with_reducible refine (gL k A0 c0 l0 q b _ (Kd.C_below HR.out HB.out) HC.out HS.out).mono ?_);rintro e w2 ⟨v1_,rfl,ho1,hb1⟩;obtain ⟨A1,c1,rfl⟩:=Kd.R_slice ho1;have HQ:=aD ho1;have m0_:=aD (aE HB.out hb1);clear HB;have HB:=m0_;clear m0_;clear ho1 hb1))
  rw [H6.out]
  obtain ⟨ad0,eA,hp0,hp1,hp2⟩:=dJ (Kd.R_reads' HQ.out).2.2 0 (by omega) (by have:=H6.out;omega)
  subst eA
  obtain ⟨ad1,eA,hp3,hp4,hp5⟩:=dJ (Kd.R_reads' HQ.out).2.2 1 (by omega) (by have:=H6.out;omega)
  cases eA
  obtain ⟨ad2,eA,hp6,hp7,hp8⟩:=dJ (Kd.R_reads' HQ.out).2.2 2 (by omega) (by have:=H6.out;omega)
  cases eA
  obtain ⟨ad3,eA,hp9,hp10,hp11⟩:=dJ (Kd.R_reads' HQ.out).2.2 3 (by omega) (by have:=H6.out;omega)
  cases eA
  obtain ⟨ad4,eA,hp12,hp13,hp14⟩:=dJ (Kd.R_reads' HQ.out).2.2 4 (by omega) (by have:=H6.out;omega)
  cases eA
  obtain ⟨ad5,eA,hp15,hp16,hp17⟩:=dJ (Kd.R_reads' HQ.out).2.2 5 (by omega) (by have:=H6.out;omega)
  cases eA
  simp only [Int.reduceToNat,Nat.reduceMul,Addr.add_zero'] at hp0 hp1 hp2
  simp only [Int.reduceToNat,Nat.reduceMul,Nat.reduceEqDiff,Nat.add_assoc,Nat.reduceAdd,Go.Addr.add,↓reduceIte] at hp3 hp4 hp5 hp6 hp7 hp8 hp9 hp10 hp11 hp12 hp13 hp14 hp15 hp16 hp17
  clear HQ
  refine dH (S:=fun w'=>Below w2.heap.size w2 w') 9 w2.heap.size [(7,8)] (by kernel_rfl) (by kernel_rfl) (cB (Below.refl _ _)) (fun _ _ h1 h2=>h1.trans h2) (fun _ h1=>h1.size) ?_
  iterate 9 (first
   | (refine eH (v:=?_) (a':=?_) rfl rfl rfl rfl (by rfl) ?_ ?_ ?_;rotate_left 2;(· rintro w' hb';go_simp;with_reducible rfl);(· simp only [Act.put,List.setIfInBounds_toArray,List.set_cons_zero,List.set_cons_succ,aZ,bB];rfl))
   | (refine eH (v:=?_) (a':=?_) rfl rfl rfl rfl (by rfl) ?_ ?_ ?_;rotate_left 2;(· rintro w' hb';have s0:=aG hb' hp0;have s1:=aG hb' hp1;have s2:=aG hb' hp2;have s3:=aG hb' hp9;have s4:=aG hb' hp10;have s5:=aG hb' hp11;go_simp;with_reducible rfl);(· simp only [Act.put,List.setIfInBounds_toArray,List.set_cons_zero,List.set_cons_succ,aZ,bB];rfl))
   | (refine fZ (a':=?_) (.agg #[.int .i64 t1,.int .i64 t2,.int .i64 t3]) rfl rfl Try.func82 rfl rfl rfl (by rfl) (by kernel_rfl) rfl #[.agg #[.int .i64 (aI q 0).f0,.int .i64 (aI q 0).f1,.int .i64 (aI q 0).f2],.agg #[.int .i64 (aI q 3).f0,.int .i64 (aI q 3).f1,.int .i64 (aI q 3).f2]] (by (try simp only [List.map_toArray,List.map_cons,List.map_nil]);rfl) ?_ ?_ ?_;rotate_left;(· rintro w' hb';with_reducible refine (aH k _ _ _ _ _ _ t1 t2 t3 _ HT.out).mono ?_;rintro e w1 ⟨rfl,hb1⟩;exact ⟨rfl,hb1⟩);(· simp only [Act.put,List.setIfInBounds_toArray,List.set_cons_zero,List.set_cons_succ,aZ,bB];rfl))
   | (refine lD #[.int .i64 0,.int .i64 0,.int .i64 0] 72 (some (8,#[.int .i64 t1,.int .i64 t2,.int .i64 t3])) rfl rfl rfl rfl (by rfl) ?_ ?_;(· rintro w' hb';first|(go_simp;done)|(go_simp;rfl)))
   | (refine lE 0 rfl rfl rfl rfl rfl rfl (fun g=>by rfl) ?_ ?_;(· rintro g w' hb' hg hn;have hs0:=(bJ hg 0).trans rfl;have hs1:=(bJ hg 1).trans rfl;have hs2:=(bJ hg 2).trans rfl;have hf0:=aC hg 0;have hf1:=aC hg 1;have hf2:=aC hg 2;refine ⟨_,?_,(gB hg _ _ _).1,(gB hg _ _ _).2⟩;first|(go_simp;done)|(go_simp;rfl))))
  refine fB ?_
  intro x1 hb5 g1 _ h1 _
  refine dD (by kernel_rfl) ?_
  have hg10:x1.cell? ⟨g1,0,none⟩=some (.int .i64 t1):=by simp [World.cell?,h1,cH]
  have hg11:x1.cell? ⟨g1,1,none⟩=some (.int .i64 t2):=by simp [World.cell?,h1,cH]
  have hg12:x1.cell? ⟨g1,2,none⟩=some (.int .i64 t3):=by simp [World.cell?,h1,cH]
  replace hp3:=aG hb5 hp3
  replace hp4:=aG hb5 hp4
  replace hp5:=aG hb5 hp5
  replace hp12:=aG hb5 hp12
  replace hp13:=aG hb5 hp13
  replace hp14:=aG hb5 hp14
  replace hp6:=aG hb5 hp6
  replace hp7:=aG hb5 hp7
  replace hp8:=aG hb5 hp8
  replace hp15:=aG hb5 hp15
  replace hp16:=aG hb5 hp16
  replace hp17:=aG hb5 hp17
  have m0_:=aD (bZ HB.out (aM HB.out) hb5)
  clear HB hb5 h1 HT hp0 hp1 hp2 hp9 hp10 hp11
  have HB:=m0_
  clear m0_
  go_wp2_with fail
  refine dH (S:=fun w'=>Below x1.heap.size x1 w') 9 x1.heap.size [(7,8)] (by kernel_rfl) (by kernel_rfl) (cB (Below.refl _ _)) (fun _ _ h1 h2=>h1.trans h2) (fun _ h1=>h1.size) ?_
  iterate 9 (first
   | (refine eH (v:=?_) (a':=?_) rfl rfl rfl rfl (by rfl) ?_ ?_ ?_;rotate_left 2;(· rintro w' hb';go_simp;with_reducible rfl);(· simp only [Act.put,List.setIfInBounds_toArray,List.set_cons_zero,List.set_cons_succ,aZ,bB];rfl))
   | (refine eH (v:=?_) (a':=?_) rfl rfl rfl rfl (by rfl) ?_ ?_ ?_;rotate_left 2;(· rintro w' hb';have s0:=aG hb' hp3;have s1:=aG hb' hp4;have s2:=aG hb' hp5;have s3:=aG hb' hp12;have s4:=aG hb' hp13;have s5:=aG hb' hp14;go_simp;with_reducible rfl);(· simp only [Act.put,List.setIfInBounds_toArray,List.set_cons_zero,List.set_cons_succ,aZ,bB];rfl))
   | (refine fZ (a':=?_) (.agg #[.int .i64 u1,.int .i64 u2,.int .i64 u3']) rfl rfl Try.func82 rfl rfl rfl (by rfl) (by kernel_rfl) rfl #[.agg #[.int .i64 (aI q 1).f0,.int .i64 (aI q 1).f1,.int .i64 (aI q 1).f2],.agg #[.int .i64 (aI q 4).f0,.int .i64 (aI q 4).f1,.int .i64 (aI q 4).f2]] (by (try simp only [List.map_toArray,List.map_cons,List.map_nil]);rfl) ?_ ?_ ?_;rotate_left;(· rintro w' hb';with_reducible refine (aH k _ _ _ _ _ _ u1 u2 u3' _ HU.out).mono ?_;rintro e w1 ⟨rfl,hb1⟩;exact ⟨rfl,hb1⟩);(· simp only [Act.put,List.setIfInBounds_toArray,List.set_cons_zero,List.set_cons_succ,aZ,bB];rfl))
   | (refine lD #[.int .i64 0,.int .i64 0,.int .i64 0] 72 (some (8,#[.int .i64 u1,.int .i64 u2,.int .i64 u3'])) rfl rfl rfl rfl (by rfl) ?_ ?_;(· rintro w' hb';first|(go_simp;done)|(go_simp;rfl)))
   | (refine lE 0 rfl rfl rfl rfl rfl rfl (fun g=>by rfl) ?_ ?_;(· rintro g w' hb' hg hn;have hs0:=(bJ hg 0).trans rfl;have hs1:=(bJ hg 1).trans rfl;have hs2:=(bJ hg 2).trans rfl;have hf0:=aC hg 0;have hf1:=aC hg 1;have hf2:=aC hg 2;refine ⟨_,?_,(gB hg _ _ _).1,(gB hg _ _ _).2⟩;first|(go_simp;done)|(go_simp;rfl))))
  refine fB ?_
  intro x2 hb5 g2 _ h1 _
  refine dD (by kernel_rfl) ?_
  have hg20:x2.cell? ⟨g2,0,none⟩=some (.int .i64 u1):=by simp [World.cell?,h1,cH]
  have hg21:x2.cell? ⟨g2,1,none⟩=some (.int .i64 u2):=by simp [World.cell?,h1,cH]
  have hg22:x2.cell? ⟨g2,2,none⟩=some (.int .i64 u3'):=by simp [World.cell?,h1,cH]
  replace hg10:=aG hb5 hg10
  replace hg11:=aG hb5 hg11
  replace hg12:=aG hb5 hg12
  replace hp6:=aG hb5 hp6
  replace hp7:=aG hb5 hp7
  replace hp8:=aG hb5 hp8
  replace hp15:=aG hb5 hp15
  replace hp16:=aG hb5 hp16
  replace hp17:=aG hb5 hp17
  have m0_:=aD (bZ HB.out (aM HB.out) hb5)
  clear HB hb5 h1 HU hp3 hp4 hp5 hp12 hp13 hp14
  have HB:=m0_
  clear m0_
  go_wp2_with fail
  refine dH (S:=fun w'=>Below x2.heap.size x2 w') 9 x2.heap.size [(7,8)] (by kernel_rfl) (by kernel_rfl) (cB (Below.refl _ _)) (fun _ _ h1 h2=>h1.trans h2) (fun _ h1=>h1.size) ?_
  iterate 9 (first
   | (refine eH (v:=?_) (a':=?_) rfl rfl rfl rfl (by rfl) ?_ ?_ ?_;rotate_left 2;(· rintro w' hb';go_simp;with_reducible rfl);(· simp only [Act.put,List.setIfInBounds_toArray,List.set_cons_zero,List.set_cons_succ,aZ,bB];rfl))
   | (refine eH (v:=?_) (a':=?_) rfl rfl rfl rfl (by rfl) ?_ ?_ ?_;rotate_left 2;(· rintro w' hb';have s0:=aG hb' hp6;have s1:=aG hb' hp7;have s2:=aG hb' hp8;have s3:=aG hb' hp15;have s4:=aG hb' hp16;have s5:=aG hb' hp17;go_simp;with_reducible rfl);(· simp only [Act.put,List.setIfInBounds_toArray,List.set_cons_zero,List.set_cons_succ,aZ,bB];rfl))
   | (refine fZ (a':=?_) (.agg #[.int .i64 v1,.int .i64 v2,.int .i64 v3]) rfl rfl Try.func82 rfl rfl rfl (by rfl) (by kernel_rfl) rfl #[.agg #[.int .i64 (aI q 2).f0,.int .i64 (aI q 2).f1,.int .i64 (aI q 2).f2],.agg #[.int .i64 (aI q 5).f0,.int .i64 (aI q 5).f1,.int .i64 (aI q 5).f2]] (by (try simp only [List.map_toArray,List.map_cons,List.map_nil]);rfl) ?_ ?_ ?_;rotate_left;(· rintro w' hb';with_reducible refine (aH k _ _ _ _ _ _ v1 v2 v3 _ HV.out).mono ?_;rintro e w1 ⟨rfl,hb1⟩;exact ⟨rfl,hb1⟩);(· simp only [Act.put,List.setIfInBounds_toArray,List.set_cons_zero,List.set_cons_succ,aZ,bB];rfl))
   | (refine lD #[.int .i64 0,.int .i64 0,.int .i64 0] 72 (some (8,#[.int .i64 v1,.int .i64 v2,.int .i64 v3])) rfl rfl rfl rfl (by rfl) ?_ ?_;(· rintro w' hb';first|(go_simp;done)|(go_simp;rfl)))
   | (refine lE 0 rfl rfl rfl rfl rfl rfl (fun g=>by rfl) ?_ ?_;(· rintro g w' hb' hg hn;have hs0:=(bJ hg 0).trans rfl;have hs1:=(bJ hg 1).trans rfl;have hs2:=(bJ hg 2).trans rfl;have hf0:=aC hg 0;have hf1:=aC hg 1;have hf2:=aC hg 2;refine ⟨_,?_,(gB hg _ _ _).1,(gB hg _ _ _).2⟩;first|(go_simp;done)|(go_simp;rfl))))
  refine fB ?_
  intro x3 hb5 g3 _ h1 _
  refine dD (by kernel_rfl) ?_
  have hg30:x3.cell? ⟨g3,0,none⟩=some (.int .i64 v1):=by simp [World.cell?,h1,cH]
  have hg31:x3.cell? ⟨g3,1,none⟩=some (.int .i64 v2):=by simp [World.cell?,h1,cH]
  have hg32:x3.cell? ⟨g3,2,none⟩=some (.int .i64 v3):=by simp [World.cell?,h1,cH]
  replace hg10:=aG hb5 hg10
  replace hg11:=aG hb5 hg11
  replace hg12:=aG hb5 hg12
  replace hg20:=aG hb5 hg20
  replace hg21:=aG hb5 hg21
  replace hg22:=aG hb5 hg22
  have m0_:=aD (bZ HB.out (aM HB.out) hb5)
  clear HB hb5 h1 HV hp6 hp7 hp8 hp15 hp16 hp17
  have HB:=m0_
  clear m0_
  cases b1 with
  | true =>
   obtain rfl:=Option.some.inj (show some false=some r from by have:=HF.out;rwa [if_pos rfl] at this)
   clear HF
   go_wp2_with (first
    | (go_at_call 123;(with_reducible refine (cN k _ _ _ _ _ _ true _ HE0.out).mono ?_);rintro e w9 ⟨rfl,hb9⟩;have m0_:=aD (aE HB.out hb9);clear HB;have HB:=m0_;clear m0_;have m0:=aG hb9 hg10;clear hg10;have hg10:=m0;clear m0;have m1:=aG hb9 hg11;clear hg11;have hg11:=m1;clear m1;have m2:=aG hb9 hg12;clear hg12;have hg12:=m2;clear m2;have m3:=aG hb9 hg20;clear hg20;have hg20:=m3;clear m3;have m4:=aG hb9 hg21;clear hg21;have hg21:=m4;clear m4;have m5:=aG hb9 hg22;clear hg22;have hg22:=m5;clear m5;have m6:=aG hb9 hg30;clear hg30;have hg30:=m6;clear m6;have m7:=aG hb9 hg31;clear hg31;have hg31:=m7;clear m7;have m8:=aG hb9 hg32;clear hg32;have hg32:=m8;clear m8;clear hb9))
   go_ret
   exact ⟨rfl,HB.out⟩
  | false =>
   have h:=HF.out
   rw [if_neg (by decide)] at h
   obtain ⟨b2,hb_,h⟩:=iS h
   have HE1:=aD (show spec_l26Equal.f k t1 t2 t3 v1 v2 v3=some b2 from hb_)
   clear HF hb_
   have HF:=aD h
   clear h
   cases b2 with
   | true =>
    obtain rfl:=Option.some.inj (show some false=some r from by have:=HF.out;rwa [if_pos rfl] at this)
    clear HF
    go_wp2_with (first
     | (go_at_call 123;(with_reducible refine (cN k _ _ _ _ _ _ false _ HE0.out).mono ?_);rintro e w9 ⟨rfl,hb9⟩;have m0_:=aD (aE HB.out hb9);clear HB;have HB:=m0_;clear m0_;have m0:=aG hb9 hg10;clear hg10;have hg10:=m0;clear m0;have m1:=aG hb9 hg11;clear hg11;have hg11:=m1;clear m1;have m2:=aG hb9 hg12;clear hg12;have hg12:=m2;clear m2;have m3:=aG hb9 hg20;clear hg20;have hg20:=m3;clear m3;have m4:=aG hb9 hg21;clear hg21;have hg21:=m4;clear m4;have m5:=aG hb9 hg22;clear hg22;have hg22:=m5;clear m5;have m6:=aG hb9 hg30;clear hg30;have hg30:=m6;clear m6;have m7:=aG hb9 hg31;clear hg31;have hg31:=m7;clear m7;have m8:=aG hb9 hg32;clear hg32;have hg32:=m8;clear m8;clear hb9)
     | (go_at_call 123;(with_reducible refine (cN k _ _ _ _ _ _ true _ HE1.out).mono ?_);rintro e w9 ⟨rfl,hb9⟩;have m0_:=aD (aE HB.out hb9);clear HB;have HB:=m0_;clear m0_;have m0:=aG hb9 hg10;clear hg10;have hg10:=m0;clear m0;have m1:=aG hb9 hg11;clear hg11;have hg11:=m1;clear m1;have m2:=aG hb9 hg12;clear hg12;have hg12:=m2;clear m2;have m3:=aG hb9 hg20;clear hg20;have hg20:=m3;clear m3;have m4:=aG hb9 hg21;clear hg21;have hg21:=m4;clear m4;have m5:=aG hb9 hg22;clear hg22;have hg22:=m5;clear m5;have m6:=aG hb9 hg30;clear hg30;have hg30:=m6;clear m6;have m7:=aG hb9 hg31;clear hg31;have hg31:=m7;clear m7;have m8:=aG hb9 hg32;clear hg32;have hg32:=m8;clear m8;clear hb9))
    go_ret
    exact ⟨rfl,HB.out⟩
   | false =>
    have h:=HF.out
    rw [if_neg (by decide)] at h
    obtain ⟨b3,hb_,h⟩:=iS h
    have HE2:=aD (show spec_l26Equal.f k u1 u2 u3' v1 v2 v3=some b3 from hb_)
    clear HF hb_
    have HF:=aD h
    clear h
    cases b3 with
    | true =>
     obtain rfl:=Option.some.inj (show some false=some r from by have:=HF.out;rwa [if_pos rfl] at this)
     clear HF
     go_wp2_with (first
      | (go_at_call 123;(with_reducible refine (cN k _ _ _ _ _ _ false _ HE0.out).mono ?_);rintro e w9 ⟨rfl,hb9⟩;have m0_:=aD (aE HB.out hb9);clear HB;have HB:=m0_;clear m0_;have m0:=aG hb9 hg10;clear hg10;have hg10:=m0;clear m0;have m1:=aG hb9 hg11;clear hg11;have hg11:=m1;clear m1;have m2:=aG hb9 hg12;clear hg12;have hg12:=m2;clear m2;have m3:=aG hb9 hg20;clear hg20;have hg20:=m3;clear m3;have m4:=aG hb9 hg21;clear hg21;have hg21:=m4;clear m4;have m5:=aG hb9 hg22;clear hg22;have hg22:=m5;clear m5;have m6:=aG hb9 hg30;clear hg30;have hg30:=m6;clear m6;have m7:=aG hb9 hg31;clear hg31;have hg31:=m7;clear m7;have m8:=aG hb9 hg32;clear hg32;have hg32:=m8;clear m8;clear hb9)
      | (go_at_call 123;(with_reducible refine (cN k _ _ _ _ _ _ false _ HE1.out).mono ?_);rintro e w9 ⟨rfl,hb9⟩;have m0_:=aD (aE HB.out hb9);clear HB;have HB:=m0_;clear m0_;have m0:=aG hb9 hg10;clear hg10;have hg10:=m0;clear m0;have m1:=aG hb9 hg11;clear hg11;have hg11:=m1;clear m1;have m2:=aG hb9 hg12;clear hg12;have hg12:=m2;clear m2;have m3:=aG hb9 hg20;clear hg20;have hg20:=m3;clear m3;have m4:=aG hb9 hg21;clear hg21;have hg21:=m4;clear m4;have m5:=aG hb9 hg22;clear hg22;have hg22:=m5;clear m5;have m6:=aG hb9 hg30;clear hg30;have hg30:=m6;clear m6;have m7:=aG hb9 hg31;clear hg31;have hg31:=m7;clear m7;have m8:=aG hb9 hg32;clear hg32;have hg32:=m8;clear m8;clear hb9)
      | (go_at_call 123;(with_reducible refine (cN k _ _ _ _ _ _ true _ HE2.out).mono ?_);rintro e w9 ⟨rfl,hb9⟩;have m0_:=aD (aE HB.out hb9);clear HB;have HB:=m0_;clear m0_;have m0:=aG hb9 hg10;clear hg10;have hg10:=m0;clear m0;have m1:=aG hb9 hg11;clear hg11;have hg11:=m1;clear m1;have m2:=aG hb9 hg12;clear hg12;have hg12:=m2;clear m2;have m3:=aG hb9 hg20;clear hg20;have hg20:=m3;clear m3;have m4:=aG hb9 hg21;clear hg21;have hg21:=m4;clear m4;have m5:=aG hb9 hg22;clear hg22;have hg22:=m5;clear m5;have m6:=aG hb9 hg30;clear hg30;have hg30:=m6;clear m6;have m7:=aG hb9 hg31;clear hg31;have hg31:=m7;clear m7;have m8:=aG hb9 hg32;clear hg32;have hg32:=m8;clear m8;clear hb9))
     go_ret
     exact ⟨rfl,HB.out⟩
    | false =>
     have h:=HF.out
     rw [if_neg (by decide)] at h
     have HON:=aD (show spec_AreOnOne.f t1 t2 t3 u1 u2 u3' v1 v2 v3=some r from h)
     clear HF h
     go_wp2_with (first
      | (go_at_call 123;(with_reducible refine (cN k _ _ _ _ _ _ false _ HE0.out).mono ?_);rintro e w9 ⟨rfl,hb9⟩;have m0_:=aD (aE HB.out hb9);clear HB;have HB:=m0_;clear m0_;have m0:=aG hb9 hg10;clear hg10;have hg10:=m0;clear m0;have m1:=aG hb9 hg11;clear hg11;have hg11:=m1;clear m1;have m2:=aG hb9 hg12;clear hg12;have hg12:=m2;clear m2;have m3:=aG hb9 hg20;clear hg20;have hg20:=m3;clear m3;have m4:=aG hb9 hg21;clear hg21;have hg21:=m4;clear m4;have m5:=aG hb9 hg22;clear hg22;have hg22:=m5;clear m5;have m6:=aG hb9 hg30;clear hg30;have hg30:=m6;clear m6;have m7:=aG hb9 hg31;clear hg31;have hg31:=m7;clear m7;have m8:=aG hb9 hg32;clear hg32;have hg32:=m8;clear m8;clear hb9)
      | (go_at_call 123;(with_reducible refine (cN k _ _ _ _ _ _ false _ HE1.out).mono ?_);rintro e w9 ⟨rfl,hb9⟩;have m0_:=aD (aE HB.out hb9);clear HB;have HB:=m0_;clear m0_;have m0:=aG hb9 hg10;clear hg10;have hg10:=m0;clear m0;have m1:=aG hb9 hg11;clear hg11;have hg11:=m1;clear m1;have m2:=aG hb9 hg12;clear hg12;have hg12:=m2;clear m2;have m3:=aG hb9 hg20;clear hg20;have hg20:=m3;clear m3;have m4:=aG hb9 hg21;clear hg21;have hg21:=m4;clear m4;have m5:=aG hb9 hg22;clear hg22;have hg22:=m5;clear m5;have m6:=aG hb9 hg30;clear hg30;have hg30:=m6;clear m6;have m7:=aG hb9 hg31;clear hg31;have hg31:=m7;clear m7;have m8:=aG hb9 hg32;clear hg32;have hg32:=m8;clear m8;clear hb9)
      | (go_at_call 123;(with_reducible refine (cN k _ _ _ _ _ _ false _ HE2.out).mono ?_);rintro e w9 ⟨rfl,hb9⟩;have m0_:=aD (aE HB.out hb9);clear HB;have HB:=m0_;clear m0_;have m0:=aG hb9 hg10;clear hg10;have hg10:=m0;clear m0;have m1:=aG hb9 hg11;clear hg11;have hg11:=m1;clear m1;have m2:=aG hb9 hg12;clear hg12;have hg12:=m2;clear m2;have m3:=aG hb9 hg20;clear hg20;have hg20:=m3;clear m3;have m4:=aG hb9 hg21;clear hg21;have hg21:=m4;clear m4;have m5:=aG hb9 hg22;clear hg22;have hg22:=m5;clear m5;have m6:=aG hb9 hg30;clear hg30;have hg30:=m6;clear m6;have m7:=aG hb9 hg31;clear hg31;have hg31:=m7;clear m7;have m8:=aG hb9 hg32;clear hg32;have hg32:=m8;clear m8;clear hb9)
      | (go_at_call 84;(with_reducible refine (bT _ _ _ _ _ _ _ _ _ r _ HON.out).mono ?_);rintro e w9 ⟨rfl,hb9⟩;have m0_:=aD (aE HB.out hb9);clear HB;have HB:=m0_;clear m0_;clear hb9))
     go_ret
     exact ⟨rfl,HB.out⟩
end Go.Proofs.Ytldcckcljjlglaa.P

