/- A part of the proof of FnGrid: printed contracts and plain laws, joined by a program of this session. -/
import Derived.Test.YteaagaekdkolnaaGreatZFnGrid0
import Derived.Test.YteaagaekdkolnaaGreatProg
import Derived.Below
import Derived.Deep.Draws
import Derived.Deep.AppendLies
import Derived.Maps.AppendAt
import Derived.OwnWalk
import Derived.Laws.BytesArg
import Derived.Laws.MakeOwn
import Derived.Laws.OwnMore
import Derived.Deep.OwnRows
import Derived.Tactics
import Derived.Lib.ConvBytes
import Derived.Laws.Slices
import Derived.WalkKit
import Derived.KernelRfl
import Derived.RowKit3
import Derived.Deep.LoopGhost
import Derived.Deep.QuietTactic
import Derived.BigQuiet
import Derived.WideLaws
import Derived.Deep.DeepCutAuto
import Derived.Deep.CutBlock
import Derived.Deep.RegionHeld3
import Derived.Laws.Rows
import Derived.Lib.AppendStr
import Derived.ArgAppend
import Derived.Laws.IdiomCopy
import Derived.OrdersHeld
import Derived.Laws.BitsLemmas
import Derived.RowKit
import Derived.Shelf.Abstract
namespace Go.Proofs.YteaagaekdkolnaaGreat.P
open Go.RowKit Go.Proofs.YteaagaekdkolnaaGreatW.PrintWords Go.Proofs.YteaagaekdkolnaaGreatW.PrintLast Go.Proofs.YteaagaekdkolnaaGreatW.PrintMore
theorem aE {p:Prop} (h:p):Aside0 p:=⟨h⟩
theorem DB {α β:Type} {o:Option α} {f:α→Option β} {b:β} (h:o.bind f=some b):∃ a,o=some a∧f a=some b:=Option.bind_eq_some_iff.mp h
theorem kD:type_of% @Kd.R_alloc:=@Kd.R_alloc
theorem kE:type_of% @Kd.R_drewN:=@Kd.R_drewN
theorem gU:type_of% @Kd.R_drew:=@Kd.R_drew
theorem mH:type_of% @kR:=@kR
theorem oN:type_of% @lL:=@lL
theorem jK:type_of% @BY:=@BY
attribute [local go_sem] max2_int min2_int max_two min_two max_three min_three max_four min_four
set_option linter.unusedVariables false
set_option linter.unusedSimpArgs false
def XG:Option Int→Value
 | none=>.nilIface
 | some c=>.iface 0 (.int .i64 c)
theorem cG:XG none=.nilIface:=rfl
theorem cI (c:Int):XG (some c)=.iface 0 (.int .i64 c):=rfl
theorem mO:(Tryz.prog.info? 3).map (fun i=>(i.zero,i.size,i.bytes))=some (some (.int .i64 0),1,8):=by kernel_rfl
theorem IA:(Tryz.prog.info? 28).map (fun i=>(i.zero,i.size,i.bytes))=some (some (.agg #[(.int .i64 0),(.int .i64 0)]),2,16):=by kernel_rfl
theorem WA:(Tryz.prog.info? 56).map (fun i=>(i.zero,i.size,i.bytes))=some (some (.agg #[(.int .i64 0),(.int .i64 0),(.int .i64 0)]),3,24):=by kernel_rfl

/-! #### struct type 28 -/
structure cF where
 f0:Int
 f1:Int
def z28:cF:=⟨(0:Int),(0:Int)⟩
def jW:Kd cF:=Kd.iso (Kd.pair (Kd.int .i64) (Kd.int .i64)) (fun x:cF=>(x.f0,x.f1))
theorem RG {w:World} {x:cF} {cs:List Value} (h:jW.K w x cs):cs=[.int .i64 x.f0,.int .i64 x.f1]:=by
 obtain ⟨_,_,rfl,rfl,rfl⟩:=h
 exact rfl
theorem FP {w:World} {base:Nat} {ok:Nat→Prop} {x:cF} {cs:List Value} (h:jW.M w base ok x cs):cs=[.int .i64 x.f0,.int .i64 x.f1]:=by
 obtain ⟨_,_,rfl,rfl,rfl⟩:=h
 exact rfl
theorem jO (w:World) (base:Nat) (ok:Nat→Prop) (x:cF)  : jW.M w base ok x [.int .i64 x.f0,.int .i64 x.f1]:=⟨[.int .i64 x.f0],[.int .i64 x.f1],rfl,rfl,rfl⟩
def aC (xs:List cF) (i:Int):cF:=xs.getD i.toNat z28
theorem bW {w:World} {A:Option Addr} {n:Nat} {xs:List cF} (h:Kd.C jW w A n xs) (i:Int) (h0:0≤i) (h1:i<n):∃ ad ,A=some ad∧w.cell? (ad.add (i.toNat*2))=some (.int .i64 (aC xs i).f0)∧w.cell? ⟨(ad.add (i.toNat*2)).block,(ad.add (i.toNat*2)).off+1,none⟩=some (.int .i64 (aC xs i).f1):=by
 obtain ⟨ad,c,e,_,hK,hc0⟩:=Kd.C_get h z28 i h0 h1
 have hc:∀ j u,c[j]? = some u→w.cell? (ad.add (i.toNat*2+j))=some u:=hc0
 obtain rfl:=RG hK
 exact ⟨ad,e,hc 0 _ rfl,by rw [← AL _ _ 1 (by omega)];exact hc 1 _ rfl⟩
/-! #### struct type 56 -/
structure pO where
 f0:Int
 f1:Int
 f2:Int
def VM:pO:=⟨(0:Int),(0:Int),(0:Int)⟩
def FQ:Kd pO:=Kd.iso (Kd.pair (Kd.int .i64) (Kd.pair (Kd.int .i64) (Kd.int .i64))) (fun x:pO=>(x.f0,x.f1,x.f2))
theorem RI {w:World} {x:pO} {cs:List Value} (h:FQ.K w x cs):cs=[.int .i64 x.f0,.int .i64 x.f1,.int .i64 x.f2]:=by
 obtain ⟨_,_,rfl,rfl,⟨_,_,rfl,rfl,rfl⟩⟩:=h
 exact rfl
theorem UB (w:World) (base:Nat) (ok:Nat→Prop) (x:pO)  : FQ.M w base ok x [.int .i64 x.f0,.int .i64 x.f1,.int .i64 x.f2]:=⟨[.int .i64 x.f0],[.int .i64 x.f1,.int .i64 x.f2],rfl,rfl,⟨[.int .i64 x.f1],[.int .i64 x.f2],rfl,rfl,rfl⟩⟩
def aG (xs:List pO) (i:Int):pO:=xs.getD i.toNat VM
theorem rR {w:World} {A:Option Addr} {n:Nat} {xs:List pO} (h:Kd.C FQ w A n xs) (i:Int) (h0:0≤i) (h1:i<n):∃ ad ,A=some ad∧w.cell? (ad.add (i.toNat*3))=some (.int .i64 (aG xs i).f0)∧w.cell? ⟨(ad.add (i.toNat*3)).block,(ad.add (i.toNat*3)).off+1,none⟩=some (.int .i64 (aG xs i).f1)∧w.cell? ⟨(ad.add (i.toNat*3)).block,(ad.add (i.toNat*3)).off+2,none⟩=some (.int .i64 (aG xs i).f2):=by
 obtain ⟨ad,c,e,_,hK,hc0⟩:=Kd.C_get h VM i h0 h1
 have hc:∀ j u,c[j]? = some u→w.cell? (ad.add (i.toNat*3+j))=some u:=hc0
 obtain rfl:=RI hK
 exact ⟨ad,e,hc 0 _ rfl,by rw [← AL _ _ 1 (by omega)];exact hc 1 _ rfl,by rw [← AL _ _ 2 (by omega)];exact hc 2 _ rfl⟩
/-! #### struct type 41 -/
structure YT where
 f0:Int
 f1:ByteArray
/-! #### a region's steps by a plan -/
def bm (n b:Nat):Array Bool:=((List.range n).map (fun i=>b.testBit i)).toArray
section plan
variable {P : Program} {md : Region.Mode} {ops : Array Oper} {Q : Exit → Act → World → Prop} {S : World → Prop} {ds : List Nat} {n : Nat}
def oI (_pl:List (Nat×Nat×Nat×Nat)) (P:Program) (md:Region.Mode) (ops:Array Oper) (Q:Exit→Act→World→Prop) (S:World→Prop) (ds:List Nat) (fuel:Nat) (l:Array Bool) (a:Act) (w:World):Prop:=wpAnyLast P md ops Q S ds fuel l a w
theorem bU (pl:List (Nat×Nat×Nat×Nat)) {fuel:Nat} {l:Array Bool} {a:Act} {w:World} (h:oI pl P md ops Q S ds fuel l a w):wpAnyLast P md ops Q S ds fuel l a w:=h
theorem aU {fuel:Nat} {l:Array Bool} {a:Act} {w:World} (h:wpAnyLast P md ops Q S ds fuel l a w):oI [] P md ops Q S ds fuel l a w:=h
theorem mD {i N b b':Nat} {pl:List (Nat×Nat×Nat×Nat)} {oi:Oper} {fuel:Nat} {a:Act} {w:World} (v:Value) (a':Act) (hi:ops[i]? = some oi) (hN:oi.dst=some N) (hc:OP md ops (bm n b) (bm n b') i=true)
  (hQ:∀ c a w,Q (.panic c) (a.put oi.dst v) w→Q (.panic c) a w) (hy:Yields P ops oi v a) (ha:a.put (some N) v=a')
  (h:oI pl P md ops Q S ds fuel (bm n b') a' w):oI ((0,i,N,b')::pl) P md ops Q S ds (fuel+1) (bm n b) a w:=uX _ hi hN hc hQ hy ha h
theorem RJ {i N b b':Nat} {pl:List (Nat×Nat×Nat×Nat)} {oi:Oper} {fuel:Nat} {a:Act} {w:World} (v:Value) (a':Act) (hi:ops[i]? = some oi) (hN:oi.dst=some N) (hc:OP md ops (bm n b) (bm n b') i=true)
  (hQ:∀ c a w,Q (.panic c) (a.put oi.dst v) w→Q (.panic c) a w) (hy:Yields P ops oi v a) (ha:a.put (some N) v=a')
  (h:oI pl P md ops Q S ds fuel (bm n b') a' w):oI ((1,i,N,b')::pl) P md ops Q S ds (fuel+1) (bm n b) a w:=uX _ hi hN hc hQ hy ha h
theorem AP {i N b b':Nat} {pl:List (Nat×Nat×Nat×Nat)} {oi:Oper} {fuel:Nat} {a:Act} {w:World} (v:Value) (a':Act) (hi:ops[i]? = some oi) (hN:oi.dst=some N) (hc:FM md ops ds (bm n b) (bm n b') i=true)
  (hQ:∀ c a w,Q (.panic c) (a.put oi.dst v) w→Q (.panic c) a w) (hy:YieldsIf P ops S oi v a) (hS:S w) (ha:a.put (some N) v=a')
  (h:oI pl P md ops Q S ds fuel (bm n b') a' w):oI ((2,i,N,b')::pl) P md ops Q S ds (fuel+1) (bm n b) a w:=qW _ hi hN hc hQ hy hS ha h
end plan
def qT (n:Int) (T:Nat→Int):Array Value:=#[.int .i64 n]++Array.ofFn fun m:Fin 343=>Value.int .i64 (T m.val)
/-! #### short words: what every walk says again and again;a side that is not written is proved by the tactics that stand with it -/
theorem aH {p:Prop} (h:p:=by first|rfl|(simp;done)|(simp [*];done)):p:=h
theorem bP {p:Prop} (h:p:=by first|rfl|(simp [cG,cI] <;> rfl)|(simp [*,cG,cI] <;> rfl)):p:=h
theorem bI {p:Prop} [Decidable p] (h:decide p=true:=by first|(with_reducible assumption)|assumption):p:=of_decide_eq_true h
theorem RK {A B:Prop} (H:Aside0 A) (k:A→B:=by intro h_;first|omega|exact Nat.le_refl _):B:=k H.out
theorem aX {A B:Prop} (H:Aside0 A) (k:A→B:=by intro h_;repeat (first|(with_reducible first|exact h_|apply mH|apply oN|apply jK|refine cE ?_ (Aside0.out (by assumption)))|exact h_)):B:=k H.out
theorem gP {A B C:Prop} (H:Aside0 A) (hs:C) (k:A→C→B:=by intro h_ s_;repeat (first|(with_reducible first|exact h_|apply mH|apply oN|apply jK|refine cE ?_ (Aside0.out (by assumption))|refine cE ?_ s_)|exact h_)):B:=k H.out hs
theorem fO {A B:Prop} (H:Aside0 A) (k:A→B:=by intro h_;(with_reducible repeat (first|refine aM ?_ _|refine aI ?_|refine aK ?_ _));exact h_):B:=k H.out
theorem bN {A B:Prop} (H:Aside0 A) (k:A→B:=by intro h_;(with_reducible repeat (first|apply kD|apply kE|apply gU));exact h_):B:=k H.out
theorem iZ {A B:Prop} (H:Aside0 A) (k:A→B:=by intro h_;repeat (first|(with_reducible first|exact h_|apply cM.set_|apply eE|apply eU|apply eF)|exact h_)):B:=k H.out
theorem bB {w0 w1 w2:World} {g:Nat} {o:Obj} (H:Aside0 (w0.heap[g]? = some o)) (hb:Below w1.heap.size w1 w2) (k:w0.heap[g]? = some o→w1.heap[g]? = some o:=by intro h_;(with_reducible repeat (first|refine aM ?_ _|refine aI ?_|refine aK ?_ _));exact h_):w2.heap[g]? = some o:=aZ (k H.out) hb
theorem dX {w w0 W:World} {g:Nat} (H:Aside0 (Below w.heap.size w w0)) (hg:g=W.heap.size) (k:Below w.heap.size w w0→Below w.heap.size w W:=by intro h_;repeat (first|(with_reducible first|exact h_|apply mH|apply oN|apply jK|refine cE ?_ (Aside0.out (by assumption)))|exact h_)):w.heap.size≤g:=by rw [hg];exact aT (k H.out)
theorem iX {w0 W:World} {g g':Nat} {o:Obj} (H:Aside0 (w0.heap[g]? = some o)) (hg:g'=W.heap.size) (k:w0.heap[g]? = some o→W.heap[g]? = some o:=by intro h_;(with_reducible repeat (first|refine aM ?_ _|refine aI ?_|refine aK ?_ _));exact h_):g≠g':=by rw [hg];exact Nat.ne_of_lt (gB (k H.out))
theorem iY {w0 W:World} {g g':Nat} {o:Obj} (H:Aside0 (w0.heap[g]? = some o)) (hg:g'=W.heap.size) (k:w0.heap[g]? = some o→W.heap[g]? = some o:=by intro h_;(with_reducible repeat (first|refine aM ?_ _|refine aI ?_|refine aK ?_ _));exact h_):g'≠g:=by rw [hg];exact Nat.ne_of_gt (gB (k H.out))
theorem aW {w:World} {g:Nat} {cs:Array Value} {t:TypeId} {v:Value} (H:Aside0 (w.heap[g]? = some (.cells cs t (0,0)))) (i:Nat) (e:cs[i]? = some v:=by rfl):w.cell? ⟨g,i,none⟩=some v:=(bK H.out i).trans e
section words
variable {P : Program} {ops : Array Oper} {rest : List Oper} {o : Oper} {a : Act} {Q : Exit → Act → World → Prop}
theorem bV {W:World} {N:Tmp} (cs:Array Value) (t:TypeId)
  (h:∀ g,g=W.heap.size→∀ w1,w1.heap[g]? = some (.cells cs t (0,0))→Below W.heap.size W w1→wpList P ops Q rest (a.put o.dst (.pointer (some ⟨g,0,none⟩))) w1)
  (hg:o.guard=none:=by rfl) (hd:o.dst=some N:=by rfl)
  (hr:(execOp a.eval o).run P W=.ok (.value (.pointer (some ⟨W.heap.size,0,none⟩))) (W.alloc (.cells cs t (0,0))):=by first|(go_simp;done)|(go_simp;rfl)):wpList P ops Q (o::rest) a W:=jS hg hd hr h
theorem aV {w:World} (N:Option Tmp) {f:FuncId} {fn:Func} {as_:Array Operand} {ts:Array TypeId} (hf:P.funcs[f]? = some fn) (args:Array Value)
  (h:Calls P f args w fun e w'=>∃ v,e=.returned v∧wpList P ops Q rest (a.put N v) w')
  (hd:o.dst=N:=by rfl) (hg:o.guard=none:=by rfl) (hname:(fn.name == "runtime.NumGoroutine")=false:=by kernel_rfl) (hb:fn.body.isSome=true:=by rfl)
  (hop:o.op=.call { callee:=.value (.func f),args:=as_,argTypes:=ts }:=by exact rfl)
  (hargs:as_.map a.eval=args:=by (try simp only [List.map_toArray,List.map_cons,List.map_nil]);first|done|rfl|(simp only [List.length_drop,List.length_take];rfl)):wpList P ops Q (o::rest) a w:=GH N hd hg hf hname hb args hop hargs h
end words
section words2
variable {P : Program} {md : Region.Mode} {ops : Array Oper} {Q : Exit → Act → World → Prop} {S : World → Prop} {ds : List Nat} {n : Nat} {T : Bool × List (List Nat × List Nat)}
theorem jT {i N b b':Nat} {pl:List (Nat×Nat×Nat×Nat)} {oi:Oper} {fuel:Nat} {a:Act} {w:World} {v:Value} {a':Act} (HT:Aside0 (iQ md ops=T)) (h:oI pl P md ops Q S ds fuel (bm n b') a' w)
  (hi:ops[i]? = some oi:=by rfl) (hN:oi.dst=some N:=by rfl) (hk:VY T (bm n b).toList (bm n b').toList i=true:=by kernel_rfl) (hQ:∀ c a w,Q (.panic c) (a.put oi.dst v) w→Q (.panic c) a w:=by exact fun _ _ _ h_=>h_)
  (hy:Yields P ops oi v a:=by (refine Or.inl ⟨by rfl,?_⟩);intro w';go_simp;with_reducible rfl) (ha:a.put (some N) v=a':=by simp only [Act.put,List.setIfInBounds_toArray,List.set_cons_zero,List.set_cons_succ,cC,dW];rfl) :
  oI ((0,i,N,b')::pl) P md ops Q S ds (fuel+1) (bm n b) a w:=mD v a' hi hN (lN HT.out hk) hQ hy ha h
theorem pZ {i N b b':Nat} {pl:List (Nat×Nat×Nat×Nat)} {oi:Oper} {fuel:Nat} {a:Act} {w:World} {v:Value} {a':Act} {B:List Nat} (HT:Aside0 (iQ md ops=T)) (HW:Aside0 (dM T.2 B=true)) (hS:S w) (h:oI pl P md ops Q S ds fuel (bm n b') a' w)
  (hi:ops[i]? = some oi:=by rfl) (hN:oi.dst=some N:=by rfl) (hk:RB T B ds (bm n b).toList (bm n b').toList i=true:=by kernel_rfl) (hQ:∀ c a w,Q (.panic c) (a.put oi.dst v) w→Q (.panic c) a w:=by exact fun _ _ _ h_=>h_)
  (hy:YieldsIf P ops S oi v a:=by (refine Or.inl ⟨by rfl,?_⟩);intro w' h_;(repeat (obtain ⟨h1_,h_⟩:=h_));go_simp;with_reducible rfl) (ha:a.put (some N) v=a':=by simp only [Act.put,List.setIfInBounds_toArray,List.set_cons_zero,List.set_cons_succ,cC,dW];rfl) :
  oI ((2,i,N,b')::pl) P md ops Q S ds (fuel+1) (bm n b) a w:=AP v a' hi hN (uY HT.out HW.out hk) hQ hy hS ha h
theorem gA {fuel:Nat} {l:Array Bool} {a a':Act} {w:World} (h:wpAnyLast P md ops Q S ds fuel l a' w) (ha:a=a':=by simp only [Act.put,List.setIfInBounds_toArray,List.set_cons_zero,List.set_cons_succ,cC,dW];rfl):wpAnyLast P md ops Q S ds fuel l a w:=QH ha h
theorem cN {oi:Oper} {N:Option Tmp} {a:Act} {w:World} {K:Act→World→Prop} {f:FuncId} {fn:Func} {as_:Array Operand} {ts:Array TypeId} (hf:P.funcs[f]? = some fn) (args:Array Value)
  (h:Calls P f args w fun e w'=>∃ v,e=.returned v∧K (a.put N v) w')
  (hname:(fn.name == "runtime.NumGoroutine")=false:=by kernel_rfl) (hb:fn.body.isSome=true:=by rfl) (hw:Region.wanted oi (yielded ops a.tmps)=true:=by rfl) (hN:oi.dst=N:=by rfl)
  (hop:oi.op=.call { callee:=.value (.func f),args:=as_,argTypes:=ts }:=by exact rfl)
  (hargs:as_.map a.eval=args:=by (try simp only [List.map_toArray,List.map_cons,List.map_nil]);first|done|rfl|(simp only [List.length_drop,List.length_take];rfl)):if Region.wanted oi (yielded ops a.tmps)=true then Oper.wp P oi a w K Q else K (a.put N undef) w:=yR hf hname hb args hw hN hop hargs h
end words2
theorem cV {p:Prop} [Decidable p] {α:Type} {x:Option α} {r:α} (h:(if p then x else none)=some r):decide p=true∧x=some r:=by by_cases c:p <;> simp_all
theorem JQ {p:Prop} [Decidable p] {α:Type} {x:Option α} {r:α} (h:(if p then none else x)=some r):¬ p∧x=some r:=by by_cases c:p <;> simp_all
theorem gQ {p:Prop} [Decidable p] {α:Type} {x:Option α} {r:α} (h:(if p then x else none)=some r):p∧x=some r:=by by_cases c:p <;> simp_all
theorem eV {p:Prop} [Decidable p] {α:Type} {x y:Option α} {r:α} (h:(if p then x else y)=some r):(decide p=true∧x=some r)∨(decide p=false∧y=some r):=by by_cases c:p <;> simp_all
theorem jE {p:Prop} [Decidable p] {α:Type} {x y:Option α} {r:α} (h:(if p then x else y)=some r):(p∧x=some r)∨(¬ p∧y=some r):=by by_cases c:p <;> simp_all
theorem aY {w w' w2:World} {p:Addr} {v:Value} {n:Nat} (H:Aside0 (Below n w w')) (h:w.cell? p=some v) (hn:n=w.heap.size:=by rfl) (e:w'.cell? p=w2.cell? p:=by rfl):w2.cell? p=some v:=by subst hn;exact e ▸ (H.out.cell (World.block_lt_of_cell? w _ h)).trans h
theorem uV {w w':World} {p:Addr} {v:Value} (hb:Below w.heap.size w w') (h:w.cell? p=some v):w'.cell? p=some v:=(hb.cell (World.block_lt_of_cell? w _ h)).trans h
theorem jP {p q R:Prop} [Decidable p] [Decidable q] (h:p→q→R) (hp:decide p=true:=by first|(with_reducible assumption)|assumption) (hq:decide q=true:=by first|(with_reducible assumption)|assumption):(p=True)∧(q=True)∧R:=⟨eq_true (of_decide_eq_true hp),eq_true (of_decide_eq_true hq),h (of_decide_eq_true hp) (of_decide_eq_true hq)⟩
theorem lT {W:World} {p a:Addr} {u:Value} {v:Option Value} (H:Aside0 (a.block≠p.block)) (h:W.cell? a=v):(W.setCell p u).cell? a=v:=(kN H.out u).trans h
theorem jB {A:Prop} {W:World} {p a:Addr} {u:Value} {v:Option Value} (h0:A) (h:W.cell? a=v) (k:A→a.block≠p.block:=by intro h_;first|exact h_|(rw [dV];exact h_)|(show (Addr.add _ _).block≠_;rw [dV];exact h_)|(dsimp only;exact h_)):(W.setCell p u).cell? a=v:=(kN (k h0) u).trans h
theorem jR {A B:Prop} (H:Aside0 A) (k:A→B:=by intro h_;(repeat (first|(with_reducible exact h_)|(with_reducible refine aM ?_ _)|(with_reducible refine aI ?_)|(with_reducible refine aK ?_ _)|refine bC ?_ (Aside0.out (by assumption)) _|apply bQ));all_goals rfl):B:=k H.out
theorem oO {α β:Type} {x y:α} {F:α→Option β} {r:β} (hy:y=x) (H:(some x).bind F=some r):F y=some r:=by subst hy;exact H
theorem oP {α:Type} {x y r:α} (hy:y=x) (H:some x=some r):some y=some r:=by subst hy;exact H
theorem kJ {A B:Prop} (h:A) (k:A→B:=by intro h_;repeat (first|exact h_|(with_reducible refine Kd.C_alloc ?_ _)|(with_reducible refine Kd.C_drewN ?_ _)|(with_reducible refine Kd.C_drew ?_))):B:=k h
theorem eM {α β:Type} {o:Option α} {f:α→Option β} {b:β} (h:o.bind f=some b):∃ a,Aside0 (o=some a)∧f a=some b:=by obtain ⟨a,h1,h2⟩:=DB h;exact ⟨a,⟨h1⟩,h2⟩
def cS (w0 W:World) (g:Nat) (f0:Int) (f1:(Nat→Int)):Prop:=W.heap[g]? = some (.cells (qT f0 f1) 96 (0,0))∧w0.heap.size≤g
theorem cS.grown {w0 W:World} {g:Nat} {f0:Int} {f1:(Nat→Int)} {W1:World} {row:Option Nat} (h:cS w0 W g f0 f1) (hw:W.grownBy W1 row) (hne:some g≠row):cS w0 W1 g f0 f1:=by
 obtain ⟨hb,hg⟩:=h
 exact ⟨kL hb hw hne,hg⟩
theorem cS.kept {w0 W:World} {g:Nat} {f0:Int} {f1:(Nat→Int)} {W1:World} {S:Nat→Prop} (h:cS w0 W g f0 f1) (hk:lY W W1 S) (hne:¬ S g):cS w0 W1 g f0 f1:=by
 obtain ⟨hb,hg⟩:=h
 exact ⟨JP hb hk hne,hg⟩
theorem cS.below {w0 W:World} {g:Nat} {f0:Int} {f1:(Nat→Int)} {W1:World} (h:cS w0 W g f0 f1) (hw:Below W.heap.size W W1):cS w0 W1 g f0 f1:=h.grown (pU hw none) (by simp)
theorem cS.alloc {w0 W:World} {g:Nat} {f0:Int} {f1:(Nat→Int)} (h:cS w0 W g f0 f1) (o:Obj):cS w0 (W.alloc o) g f0 f1:=h.below (mH (Below.refl _ _) o)
theorem cS.drewN {w0 W:World} {g:Nat} {f0:Int} {f1:(Nat→Int)} (h:cS w0 W g f0 f1) (m:Nat):cS w0 (W.drewN m) g f0 f1:=h
theorem cS.drew {w0 W:World} {g:Nat} {f0:Int} {f1:(Nat→Int)} (h:cS w0 W g f0 f1):cS w0 W.drew g f0 f1:=h
theorem WZ {w0 W:World} {g:Nat} {f0:Int} {f1:(Nat→Int)} {w':World} {m:Nat} (hq:W.drewN m=w') (h:cS w0 W g f0 f1):cS w0 w' g f0 f1:=by subst hq;exact cS.drewN h m
theorem cS.apart {w0 W:World} {g:Nat} {f0:Int} {f1:(Nat→Int)} {α:Type} {d:Kd α} {e:Nat} {base:Nat} {ok:Nat→Prop} {v:Value} {xs:List α} (h:cS w0 W g f0 f1) (ho:d.R e W base ok v xs) (ht:∀ q,q ∈ e::d.E→q≠96):d.R e W base (fun k=>ok k∧k≠g) v xs:=by
 obtain ⟨hb,hg⟩:=h
 exact Kd.R_types ho hb ht
theorem IB {w0 W:World} {g:Nat} {f0:Int} {f1:(Nat→Int)} {α:Type} {d:Kd α} {e:Nat} {base:Nat} {ok:Nat→Prop} {v:Value} {xs:List α} (h:cS w0 W g f0 f1) (ho:d.R e W base ok v xs) (ht:e≠96):some g≠v.ownBlock:=by
 obtain ⟨hb,hg⟩:=h
 exact Kd.R_ne ho hb ht
theorem iC {w0 W:World} {g:Nat} {f0:Int} {f1:(Nat→Int)} (h:cS w0 W g f0 f1):g<W.heap.size:=by
 obtain ⟨hb,hg⟩:=h
 exact gB hb
theorem bS {w0 W:World} {g:Nat} {f0:Int} {f1:(Nat→Int)} (h:cS w0 W g f0 f1):w0.heap.size≤g:=by
 obtain ⟨hb,hg⟩:=h
 exact hg
theorem yS {w0 W:World} {g:Nat} {f0:Int} {f1:(Nat→Int)} {a:Nat} {cs:Array Value} {t:TypeId} {fr:Nat×Nat} (h:cS w0 W g f0 f1) (hb2:W.heap[a]? = some (.cells cs t fr)) (ht:t≠96):g≠a:=by
 obtain ⟨hb,hg⟩:=h
 rintro rfl
 rw [hb] at hb2
 injection hb2 with hb2
 injection hb2 with _ ht2
 exact ht ht2.symm
theorem lB {w0 W:World} {g:Nat} {f0:Int} {f1:(Nat→Int)} {p:Addr} (h:cS w0 W g f0 f1) (hne:g≠p.block) (u:Value):cS w0 (W.setCell p u) g f0 f1:=by
 obtain ⟨hb,hg⟩:=h
 exact ⟨bC hb hne u,hg⟩
theorem nJ {W:World} {g:Nat} {f0:Int} {f1:(Nat→Int)} (h:W.heap[g]? = some (.cells (qT f0 f1) 96 (0,0))):W.cell? ⟨g,0,none⟩=some (.int .i64 f0):=(bK h 0).trans (by simp [qT])
theorem cO {A B:Prop} (H:Aside0 A) (k:A→B:=by intro h_;repeat (first|(with_reducible first|exact h_|apply cS.alloc|apply cS.drewN|apply cS.drew|refine lB ?_ (Aside0.out (by assumption)) _)|exact h_)):B:=k H.out
end Go.Proofs.YteaagaekdkolnaaGreat.P

namespace Go.Proofs.YteaagaekdkolnaaGreat.P
open Go.RowKit Go.Proofs.YteaagaekdkolnaaGreatW.PrintWords Go.Proofs.YteaagaekdkolnaaGreatW.PrintLast Go.Proofs.YteaagaekdkolnaaGreatW.PrintMore
attribute [local go_sem] max2_int min2_int max_two min_two max_three min_three max_four min_four
set_option linter.unusedVariables false
set_option linter.unusedSimpArgs false
theorem eqA28 (d:Nat) (w:World) (x0 y0:Int) (x1 y1:Int) :
  (Op.equalIn (d+2) 28 (.agg #[.int .i64 x0,.int .i64 x1]) (.agg #[.int .i64 y0,.int .i64 y1])).run Tryz.prog w=.ok (x0==y0&&(x1==y1)) w:=by
 refine VH Tryz.underlying28 (by kernel_rfl) ?_
 refine RE (by rfl) (by go_simp;rfl) (by go_simp;rfl) (by go_simp) ?_
 exact RD (by rfl) (by go_simp;rfl) (by go_simp;rfl) (by go_simp)
/-! ### laws_big: function 4 -/
def laws_big.f (l0:List Int):Option (Bool):=some (decide ((l0.length:Int) > 1048576))
set_option maxHeartbeats 8000000 in
set_option maxRecDepth 100000 in
theorem uZ (A0:Option Addr) (c0:Nat) (l0:List Int) (r:Bool) (w:World) (hr0:Kd.C (Kd.int .u8) w A0 l0.length l0) (hc0:l0.length≤c0) (h:laws_big.f l0=some r) :
  Calls Tryz.prog 4 #[.slice A0 l0.length c0] w fun e w'=>e=.returned (.bool r)∧gH w w':=by
 have HR0:=aE hr0
 have HC0:=aE hc0
 clear hr0 hc0
 unfold laws_big.f at h
 have H:=h
 clear h
 obtain rfl:=Option.some.inj H
 go_enter Tryz.func4,Tryz.ntmps4
 go_wp2
 go_ret
 exact ⟨aH,by repeat (first|exact gH.refl _|apply bF)⟩
def dR (w0 W:World) (g:Nat) (f0:List Int) (f1:Int) (f2:Int):Prop:=∃ A0 c0,W.heap[g]? = some (.cells #[.slice A0 f0.length c0,.int .i64 f1,.int .i64 f2] 79 (0,0))∧w0.heap.size≤g∧Kd.C (Kd.int .u8) w0 A0 f0.length f0
theorem dR.grown {w0 W:World} {g:Nat} {f0:List Int} {f1:Int} {f2:Int} {W1:World} {row:Option Nat} (h:dR w0 W g f0 f1 f2) (hw:W.grownBy W1 row) (hne:some g≠row):dR w0 W1 g f0 f1 f2:=by
 obtain ⟨A0,c0,hb,hg,hr0⟩:=h
 exact ⟨A0,c0,kL hb hw hne,hg,hr0⟩
theorem dR.kept {w0 W:World} {g:Nat} {f0:List Int} {f1:Int} {f2:Int} {W1:World} {S:Nat→Prop} (h:dR w0 W g f0 f1 f2) (hk:lY W W1 S) (hne:¬ S g):dR w0 W1 g f0 f1 f2:=by
 obtain ⟨A0,c0,hb,hg,hr0⟩:=h
 exact ⟨A0,c0,JP hb hk hne,hg,hr0⟩
theorem dR.below {w0 W:World} {g:Nat} {f0:List Int} {f1:Int} {f2:Int} {W1:World} (h:dR w0 W g f0 f1 f2) (hw:Below W.heap.size W W1):dR w0 W1 g f0 f1 f2:=h.grown (pU hw none) (by simp)
theorem dR.alloc {w0 W:World} {g:Nat} {f0:List Int} {f1:Int} {f2:Int} (h:dR w0 W g f0 f1 f2) (o:Obj):dR w0 (W.alloc o) g f0 f1 f2:=h.below (mH (Below.refl _ _) o)
theorem dR.drewN {w0 W:World} {g:Nat} {f0:List Int} {f1:Int} {f2:Int} (h:dR w0 W g f0 f1 f2) (m:Nat):dR w0 (W.drewN m) g f0 f1 f2:=h
theorem dR.drew {w0 W:World} {g:Nat} {f0:List Int} {f1:Int} {f2:Int} (h:dR w0 W g f0 f1 f2):dR w0 W.drew g f0 f1 f2:=h
theorem WH {w0 W:World} {g:Nat} {f0:List Int} {f1:Int} {f2:Int} {w':World} {m:Nat} (hq:W.drewN m=w') (h:dR w0 W g f0 f1 f2):dR w0 w' g f0 f1 f2:=by subst hq;exact dR.drewN h m
theorem dR.apart {w0 W:World} {g:Nat} {f0:List Int} {f1:Int} {f2:Int} {α:Type} {d:Kd α} {e:Nat} {base:Nat} {ok:Nat→Prop} {v:Value} {xs:List α} (h:dR w0 W g f0 f1 f2) (ho:d.R e W base ok v xs) (ht:∀ q,q ∈ e::d.E→q≠79):d.R e W base (fun k=>ok k∧k≠g) v xs:=by
 obtain ⟨A0,c0,hb,hg,hr0⟩:=h
 exact Kd.R_types ho hb ht
theorem mP {w0 W:World} {g:Nat} {f0:List Int} {f1:Int} {f2:Int} {α:Type} {d:Kd α} {e:Nat} {base:Nat} {ok:Nat→Prop} {v:Value} {xs:List α} (h:dR w0 W g f0 f1 f2) (ho:d.R e W base ok v xs) (ht:e≠79):some g≠v.ownBlock:=by
 obtain ⟨A0,c0,hb,hg,hr0⟩:=h
 exact Kd.R_ne ho hb ht
theorem yT {w0 W:World} {g:Nat} {f0:List Int} {f1:Int} {f2:Int} (h:dR w0 W g f0 f1 f2):g<W.heap.size:=by
 obtain ⟨A0,c0,hb,hg,hr0⟩:=h
 exact gB hb
theorem bD {w0 W:World} {g:Nat} {f0:List Int} {f1:Int} {f2:Int} (h:dR w0 W g f0 f1 f2):w0.heap.size≤g:=by
 obtain ⟨A0,c0,hb,hg,hr0⟩:=h
 exact hg
theorem cD {w0 W:World} {g:Nat} {f0:List Int} {f1:Int} {f2:Int} {a:Nat} {cs:Array Value} {t:TypeId} {fr:Nat×Nat} (h:dR w0 W g f0 f1 f2) (hb2:W.heap[a]? = some (.cells cs t fr)) (ht:t≠79):g≠a:=by
 obtain ⟨A0,c0,hb,hg,hr0⟩:=h
 rintro rfl
 rw [hb] at hb2
 injection hb2 with hb2
 injection hb2 with _ ht2
 exact ht ht2.symm
theorem OU {w0 W:World} {g:Nat} {f0:List Int} {f1:Int} {f2:Int} {p:Addr} (h:dR w0 W g f0 f1 f2) (hne:g≠p.block) (u:Value):dR w0 (W.setCell p u) g f0 f1 f2:=by
 obtain ⟨A0,c0,hb,hg,hr0⟩:=h
 exact ⟨A0,c0,bC hb hne u,hg,hr0⟩
theorem FR {W:World} {g:Nat} {A0:Option Addr} {c0:Nat} {f0:List Int} {f1:Int} {f2:Int} (h:W.heap[g]? = some (.cells #[.slice A0 f0.length c0,.int .i64 f1,.int .i64 f2] 79 (0,0))):W.cell? ⟨g,0,none⟩=some (.slice A0 f0.length c0):=(bK h 0).trans rfl
theorem FS {W:World} {g:Nat} {A0:Option Addr} {c0:Nat} {f0:List Int} {f1:Int} {f2:Int} (h:W.heap[g]? = some (.cells #[.slice A0 f0.length c0,.int .i64 f1,.int .i64 f2] 79 (0,0))):W.cell? ⟨g,1,none⟩=some (.int .i64 f1):=(bK h 1).trans rfl
theorem JR {w0 W:World} {g:Nat} {f0:List Int} {f1:Int} {f2:Int} (h:dR w0 W g f0 f1 f2) (x:Int):dR w0 (W.setCell ⟨g,1,none⟩ (.int .i64 x)) g f0 x f2:=by
 obtain ⟨A0,c0,hb,hg,hr0⟩:=h
 exact ⟨A0,c0,by simpa using yL hb 1 (.int .i64 x),hg,hr0⟩
theorem FT {W:World} {g:Nat} {A0:Option Addr} {c0:Nat} {f0:List Int} {f1:Int} {f2:Int} (h:W.heap[g]? = some (.cells #[.slice A0 f0.length c0,.int .i64 f1,.int .i64 f2] 79 (0,0))):W.cell? ⟨g,2,none⟩=some (.int .i64 f2):=(bK h 2).trans rfl
theorem JS {w0 W:World} {g:Nat} {f0:List Int} {f1:Int} {f2:Int} (h:dR w0 W g f0 f1 f2) (x:Int):dR w0 (W.setCell ⟨g,2,none⟩ (.int .i64 x)) g f0 f1 x:=by
 obtain ⟨A0,c0,hb,hg,hr0⟩:=h
 exact ⟨A0,c0,by simpa using yL hb 2 (.int .i64 x),hg,hr0⟩
theorem cQ {A B:Prop} (H:Aside0 A) (k:A→B:=by intro h_;repeat (first|(with_reducible first|exact h_|apply dR.alloc|apply dR.drewN|apply dR.drew|apply JR|apply JS|refine OU ?_ (Aside0.out (by assumption)) _)|exact h_)):B:=k H.out
/-! ### spec_l1Byte: function 80 -/
def spec_l1Byte.f (s0_0:List Int) (s0_1:Int) (s0_2:Int):Option (Int×Int×Int):=if s0_1<(s0_0.length:Int) then (if 0≤s0_1 then (some (Go.bits .and .i64 (wrap64 ((Go.bits .and .i64 (Go.bits .xor .i64 ((wrap64 ((wrap64 (s0_2*6364136223846793005))+1442695040888963407)) / 8589934592) ((wrap64 ((wrap64 (s0_2*6364136223846793005))+1442695040888963407)) / 35184372088832)) 255)+(wrap64 (rd s0_0 s0_1)))) 255,wrap64 (s0_1+1),wrap64 ((wrap64 (s0_2*6364136223846793005))+1442695040888963407))) else (none)) else (some (Go.bits .and .i64 (Go.bits .xor .i64 ((wrap64 ((wrap64 (s0_2*6364136223846793005))+1442695040888963407)) / 8589934592) ((wrap64 ((wrap64 (s0_2*6364136223846793005))+1442695040888963407)) / 35184372088832)) 255,s0_1,wrap64 ((wrap64 (s0_2*6364136223846793005))+1442695040888963407)))
set_option maxHeartbeats 8000000 in
set_option maxRecDepth 100000 in
theorem kF (g:Nat) (s0_0:List Int) (s0_1:Int) (s0_2:Int) (r1:Int) (r2:Int) (r3:Int) (w0 w:World) (hI:dR w0 w g s0_0 s0_1 s0_2) (hB:Below w0.heap.size w0 w) (h:spec_l1Byte.f s0_0 s0_1 s0_2=some (r1,r2,r3)) :
  Calls Tryz.prog 80 #[.pointer (some ⟨g,0,none⟩)] w fun e w'=>e=.returned (.int .i64 r1)∧dR w0 w' g s0_0 r2 r3∧Below w0.heap.size w0 w'∧cM w w' g none:=by
 have HI0:=aE hI
 have HK:=aE (cM.refl w g none)
 have HL:=aE hB.size
 clear hI
 have HW0:=aE hB.size
 have HB:=aE hB
 clear hB
 unfold spec_l1Byte.f at h
 have H:=h
 clear h
 rcases eV H with ⟨c2b0,H⟩|⟨c2b0,H⟩
 ·obtain ⟨c3b0,H⟩:=cV H
  simp only [Option.some.injEq,Prod.mk.injEq] at H
  obtain ⟨rfl,rfl,rfl⟩:=H
  obtain ⟨ASz4_0,cSz4_0,HGz4,hgz4,HSz4_0⟩:=HI0.out
  have hcz4_0:=FR HGz4
  have hcz4_1:=FS HGz4
  have hcz4_2:=FT HGz4
  have hfz4_1:=aA HGz4 1
  have hfz4_2:=aA HGz4 2
  clear HGz4 hgz4
  have p101:0≤(s0_1:Int):=bI
  have q101:s0_1<(s0_0.length:Int):=bI
  obtain ⟨ad101,e101,hx101_0⟩:=Kd.at_int HSz4_0 s0_1 p101 q101
  cases e101
  have hn101_0:ad101.block≠g:=Nat.ne_of_lt (Nat.lt_of_lt_of_le (by have:=World.block_lt_of_cell? _ _ hx101_0;first|rwa [dV] at this|exact this) (bD HI0.out))
  replace hx101_0:=lH HB.out hx101_0
  replace hx101_0:=(kN (p:=⟨g,2,none⟩) (by first|(rw [dV];exact hn101_0)|(show (Addr.add _ _).block≠_;rw [dV];exact hn101_0)|exact hn101_0) (.int .i64 (wrap64 ((wrap64 (s0_2*6364136223846793005))+1442695040888963407)))).trans hx101_0
  (try have hy101_0:=fun (n_:Nat)=>(show (((w.drewN n_).setCell ⟨g,2,none⟩ (.int .i64 (wrap64 ((wrap64 (s0_2*6364136223846793005))+1442695040888963407))))).cell? _=some _ from hx101_0))
  clear hn101_0
  replace p101:=eq_true p101
  replace q101:=eq_true q101
  go_enter Tryz.func80,Tryz.ntmps80
  go_wp2
  repeat (go_quiet (fail);try go_wp2)
  go_ret
  exact ⟨bP,cQ HI0,gP HB (bD HI0.out),iZ HK⟩
 ·simp only [Option.some.injEq,Prod.mk.injEq] at H
  obtain ⟨rfl,rfl,rfl⟩:=H
  obtain ⟨ASz5_0,cSz5_0,HGz5,hgz5,HSz5_0⟩:=HI0.out
  have hcz5_0:=FR HGz5
  have hcz5_1:=FS HGz5
  have hcz5_2:=FT HGz5
  have hfz5_1:=aA HGz5 1
  have hfz5_2:=aA HGz5 2
  clear HGz5 hgz5
  go_enter Tryz.func80,Tryz.ntmps80
  go_wp2
  repeat (go_quiet (fail);try go_wp2)
  go_ret
  exact ⟨bP,cQ HI0,gP HB (bD HI0.out),iZ HK⟩
/-! ### spec_l1Below: function 61 -/
def spec_l1Below.f (s0_0:List Int) (s0_1:Int) (s0_2:Int) (a1:Int):Option (Int×Int×Int):=if a1≤0 then (some (0,s0_1,s0_2)) else (if a1≤256 then ((spec_l1Byte.f s0_0 s0_1 s0_2).bind fun bt101=>(if a1=0 then (none) else (some (Int.tmod bt101.1 a1,bt101.2.1,bt101.2.2)))) else ((spec_l1Byte.f s0_0 s0_1 s0_2).bind fun bt104=>((spec_l1Byte.f s0_0 bt104.2.1 bt104.2.2).bind fun bt107=>((spec_l1Byte.f s0_0 bt107.2.1 bt107.2.2).bind fun bt110=>((spec_l1Byte.f s0_0 bt110.2.1 bt110.2.2).bind fun bt113=>(if a1=0 then (none) else (some (Int.tmod (wrap64 ((wrap64 ((wrap64 ((wrap64 (bt104.1*16777216))+(wrap64 (bt107.1*65536))))+(wrap64 (bt110.1*256))))+bt113.1)) a1,bt113.2.1,bt113.2.2))))))))
set_option maxHeartbeats 8000000 in
set_option maxRecDepth 100000 in
theorem dN (g:Nat) (s0_0:List Int) (s0_1:Int) (s0_2:Int) (a1:Int) (r1:Int) (r2:Int) (r3:Int) (w0 w:World) (hI:dR w0 w g s0_0 s0_1 s0_2) (hB:Below w0.heap.size w0 w) (h:spec_l1Below.f s0_0 s0_1 s0_2 a1=some (r1,r2,r3)) :
  Calls Tryz.prog 61 #[.pointer (some ⟨g,0,none⟩),.int .i64 a1] w fun e w'=>e=.returned (.int .i64 r1)∧dR w0 w' g s0_0 r2 r3∧Below w0.heap.size w0 w'∧cM w w' g none:=by
 have HI0:=aE hI
 have HK:=aE (cM.refl w g none)
 have HL:=aE hB.size
 clear hI
 have HW0:=aE hB.size
 have HB:=aE hB
 clear hB
 unfold spec_l1Below.f at h
 have H:=h
 clear h
 rcases eV H with ⟨c3b0,H⟩|⟨c3b0,H⟩
 ·simp only [Option.some.injEq,Prod.mk.injEq] at H
  obtain ⟨rfl,rfl,rfl⟩:=H
  go_enter Tryz.func61,Tryz.ntmps61
  go_wp2
  go_ret
  exact ⟨bP,cQ HI0,gP HB (bD HI0.out),iZ HK⟩
 ·rcases eV H with ⟨c4b0,H⟩|⟨c4b0,H⟩
  ·replace H:=DB H
   obtain ⟨⟨t101,t102,t103⟩,A50,H⟩:=H
   try dsimp only at H
   have A5:=aE A50
   clear A50
   obtain ⟨c6,H⟩:=JQ H
   have c6b0:(a1==0)=false:=beq_eq_false_iff_ne.mpr c6
   have c6b1:(a1 != 0)=true:=bne_iff_ne.mpr c6
   simp only [Option.some.injEq,Prod.mk.injEq] at H
   obtain ⟨rfl,rfl,rfl⟩:=H
   go_enter Tryz.func61,Tryz.ntmps61
   go_wp2_with (first|((with_reducible refine aJ (f:=80) rfl ?_);refine aV (some 14) Tryz.func80 #[.pointer (some ⟨g,0,none⟩)] ?_;(with_reducible refine (kF g s0_0 s0_1 s0_2 t101 t102 t103 w0 _ ?side1 ?side2 A5.out).mono ?_);(case side1=>exact cQ HI0);(case side2=>exact gP HB (bD HI0.out));rintro e w7 ⟨rfl,hi,hb,hk⟩;refine ⟨_,rfl,?_⟩;replace HK:=aE (cM.trans (iZ HK) hk (.inl rfl));replace HB:=aE (hb);replace HI0:=aE (hi);(try clear hb);(try clear hk);(try clear hi)))
   go_ret
   exact ⟨bP,cQ HI0,gP HB (bD HI0.out),iZ HK⟩
  ·replace H:=DB H
   obtain ⟨⟨t104,t105,t106⟩,A80,H⟩:=H
   try dsimp only at H
   have A8:=aE A80
   clear A80
   replace H:=eM H
   obtain ⟨⟨t107,t108,t109⟩,A9,H⟩:=H
   try dsimp only at H
   replace H:=eM H
   obtain ⟨⟨t110,t111,t112⟩,A10,H⟩:=H
   try dsimp only at H
   replace H:=eM H
   obtain ⟨⟨t113,t114,t115⟩,A11,H⟩:=H
   try dsimp only at H
   obtain ⟨c12,H⟩:=JQ H
   have c12b0:(a1==0)=false:=beq_eq_false_iff_ne.mpr c12
   have c12b1:(a1 != 0)=true:=bne_iff_ne.mpr c12
   simp only [Option.some.injEq,Prod.mk.injEq] at H
   obtain ⟨rfl,rfl,rfl⟩:=H
   go_enter Tryz.func61,Tryz.ntmps61
   go_wp2_with (first|((with_reducible refine aJ (f:=80) rfl ?_);refine aV (some 18) Tryz.func80 #[.pointer (some ⟨g,0,none⟩)] ?_;(with_reducible refine (kF g s0_0 s0_1 s0_2 t104 t105 t106 w0 _ ?side1 ?side2 A8.out).mono ?_);(case side1=>exact cQ HI0);(case side2=>exact gP HB (bD HI0.out));rintro e w13 ⟨rfl,hi,hb,hk⟩;refine ⟨_,rfl,?_⟩;replace HK:=aE (cM.trans (iZ HK) hk (.inl rfl));replace HB:=aE (hb);replace HI0:=aE (hi);(try clear hb);(try clear hk);(try clear hi))|((with_reducible refine aJ (f:=80) rfl ?_);refine aV (some 20) Tryz.func80 #[.pointer (some ⟨g,0,none⟩)] ?_;(with_reducible refine (kF g s0_0 t105 t106 t107 t108 t109 w0 _ ?side1 ?side2 A9.out).mono ?_);(case side1=>exact cQ HI0);(case side2=>exact gP HB (bD HI0.out));rintro e w14 ⟨rfl,hi,hb,hk⟩;refine ⟨_,rfl,?_⟩;replace HK:=aE (cM.trans (iZ HK) hk (.inl rfl));replace HB:=aE (hb);replace HI0:=aE (hi);(try clear hb);(try clear hk);(try clear hi))|((with_reducible refine aJ (f:=80) rfl ?_);refine aV (some 22) Tryz.func80 #[.pointer (some ⟨g,0,none⟩)] ?_;(with_reducible refine (kF g s0_0 t108 t109 t110 t111 t112 w0 _ ?side1 ?side2 A10.out).mono ?_);(case side1=>exact cQ HI0);(case side2=>exact gP HB (bD HI0.out));rintro e w15 ⟨rfl,hi,hb,hk⟩;refine ⟨_,rfl,?_⟩;replace HK:=aE (cM.trans (iZ HK) hk (.inl rfl));replace HB:=aE (hb);replace HI0:=aE (hi);(try clear hb);(try clear hk);(try clear hi))|((with_reducible refine aJ (f:=80) rfl ?_);refine aV (some 24) Tryz.func80 #[.pointer (some ⟨g,0,none⟩)] ?_;(with_reducible refine (kF g s0_0 t111 t112 t113 t114 t115 w0 _ ?side1 ?side2 A11.out).mono ?_);(case side1=>exact cQ HI0);(case side2=>exact gP HB (bD HI0.out));rintro e w16 ⟨rfl,hi,hb,hk⟩;refine ⟨_,rfl,?_⟩;replace HK:=aE (cM.trans (iZ HK) hk (.inl rfl));replace HB:=aE (hb);replace HI0:=aE (hi);(try clear hb);(try clear hk);(try clear hi)))
   go_ret
   exact ⟨bP,cQ HI0,gP HB (bD HI0.out),iZ HK⟩
/-! ### spec_l2Area: function 53 -/
def spec_l2Area.f (a0_0:Int) (a0_1:Int) (a1_0:Int) (a1_1:Int) (a2_0:Int) (a2_1:Int):Option (Int):=some (wrap64 ((wrap64 ((wrap64 (a1_0-a0_0))*(wrap64 (a2_1-a0_1))))-(wrap64 ((wrap64 (a1_1-a0_1))*(wrap64 (a2_0-a0_0))))))
set_option maxHeartbeats 8000000 in
set_option maxRecDepth 100000 in
theorem gX (a0_0:Int) (a0_1:Int) (a1_0:Int) (a1_1:Int) (a2_0:Int) (a2_1:Int) (r:Int) (w:World) (h:spec_l2Area.f a0_0 a0_1 a1_0 a1_1 a2_0 a2_1=some r) :
  Calls Tryz.prog 53 #[.agg #[.int .i64 a0_0,.int .i64 a0_1],.agg #[.int .i64 a1_0,.int .i64 a1_1],.agg #[.int .i64 a2_0,.int .i64 a2_1]] w fun e w'=>e=.returned (.int .i64 r)∧Below w.heap.size w w':=by
 have hu28:=Tryz.underlying28
 have HB:=aE (Below.refl w.heap.size w)
 unfold spec_l2Area.f at h
 have H:=h
 clear h
 obtain rfl:=Option.some.inj H
 go_enter Tryz.func53,Tryz.ntmps53
 go_wp2_with (first|((with_reducible refine aN (N:=3) rfl ?_);refine bV (N:=3) #[.int .i64 a0_0,.int .i64 a0_1] 28 ?_;intro gb101 hg w4 hbox hb;have BK101:=aE (hbox);have GW101:=aE ((dX HB hg));have GE101:=aE ((dX HB hg));replace HB:=aE (aD (aX HB) hb);clear hb hbox hg)|((with_reducible refine aN (N:=4) rfl ?_);refine bV (N:=4) #[.int .i64 a1_0,.int .i64 a1_1] 28 ?_;intro gb102 hg w5 hbox hb;have BK102:=aE (hbox);have GW102:=aE ((dX HB hg));have GE102:=aE ((dX HB hg));replace HB:=aE (aD (aX HB) hb);have NB101_102:=aE ((iX BK101 hg));have NB102_101:=aE ((iY BK101 hg));replace BK101:=aE (bB BK101 hb);clear hb hbox hg)|((with_reducible refine aN (N:=5) rfl ?_);refine bV (N:=5) #[.int .i64 a2_0,.int .i64 a2_1] 28 ?_;intro gb103 hg w6 hbox hb;have BK103:=aE (hbox);have GW103:=aE ((dX HB hg));have GE103:=aE ((dX HB hg));replace HB:=aE (aD (aX HB) hb);have NB101_103:=aE ((iX BK101 hg));have NB103_101:=aE ((iY BK101 hg));replace BK101:=aE (bB BK101 hb);have NB102_103:=aE ((iX BK102 hg));have NB103_102:=aE ((iY BK102 hg));replace BK102:=aE (bB BK102 hb);clear hb hbox hg;have hnb7:=NB102_101.out;have hnc7:=NB101_102.out;have hnb8:=NB102_103.out;have hnc8:=NB103_102.out;have hcz9_0:=aW BK102 0;have hcz9_1:=aW BK102 1;have hfz9_0:=aA BK102.out 0;have hfz9_1:=aA BK102.out 1;have hnb10:=NB101_103.out;have hnc10:=NB103_101.out;have hcz11_0:=aW BK101 0;have hcz11_1:=aW BK101 1;have hfz11_0:=aA BK101.out 0;have hfz11_1:=aA BK101.out 1;have hcz12_0:=aW BK103 0;have hcz12_1:=aW BK103 1;have hfz12_0:=aA BK103.out 0;have hfz12_1:=aA BK103.out 1))
 go_ret
 exact ⟨bP,aX HB⟩
end Go.Proofs.YteaagaekdkolnaaGreat.P

namespace Go.Proofs.YteaagaekdkolnaaGreat.P
open Go.RowKit Go.Proofs.YteaagaekdkolnaaGreatW.PrintWords Go.Proofs.YteaagaekdkolnaaGreatW.PrintLast Go.Proofs.YteaagaekdkolnaaGreatW.PrintMore
attribute [local go_sem] max2_int min2_int max_two min_two max_three min_three max_four min_four
set_option linter.unusedVariables false
set_option linter.unusedSimpArgs false
attribute [local go_sem high] eqA28
/-! ### spec_l2Draw: function 60 -/
mutual
def fP:Nat→Int→List (cF)→Int→List Int→Int→Int→Option ((List (cF))×Int×Int)
 | 0,_,_,_,_,_,_=>none
 | k+1,x3,x4,x5,x1000,x1001,x1002=>if x5<12 then (iD k x3 x4 x5 (decide ((x4.length:Int)<x3)) x1000 x1001 x1002) else (iD k x3 x4 x5 false x1000 x1001 x1002)
def iD:Nat→Int→List (cF)→Int→Bool→List Int→Int→Int→Option ((List (cF))×Int×Int)
 | 0,_,_,_,_,_,_,_=>none
 | k+1,x3,x4,x5,x21,x1000,x1001,x1002=>if x21=true then ((spec_l1Below.f x1000 x1001 x1002 13).bind fun bt110=>((spec_l1Below.f x1000 bt110.2.1 bt110.2.2 13).bind fun bt113=>(gC k x3 x4 x5 true 0 x1000 bt113.2.1 bt113.2.2 (wrap64 (bt110.1-6)) (wrap64 (bt113.1-6))))) else (if (x4.length:Int)<3 then (some ((([(⟨0,0⟩:cF),(⟨4,1⟩:cF),(⟨1,3⟩:cF),(⟨2,2⟩:cF)]:List (cF))),x1001,x1002)) else (some (x4,x1001,x1002)))
def gC:Nat→Int→List (cF)→Int→Bool→Int→List Int→Int→Int→Int→Int→Option ((List (cF))×Int×Int)
 | 0,_,_,_,_,_,_,_,_,_,_=>none
 | k+1,x3,x4,x5,x7,x8,x1000,x1001,x1002,x117000,x117001=>if x8<(x4.length:Int) then (gD k x3 x4 x5 x7 x8 x7 x1000 x1001 x1002 x117000 x117001) else (gD k x3 x4 x5 x7 x8 false x1000 x1001 x1002 x117000 x117001)
def gD:Nat→Int→List (cF)→Int→Bool→Int→Bool→List Int→Int→Int→Int→Int→Option ((List (cF))×Int×Int)
 | 0,_,_,_,_,_,_,_,_,_,_,_=>none
 | k+1,x3,x4,x5,x7,x8,x37,x1000,x1001,x1002,x117000,x117001=>if x37=true then (if 0≤x8 then (if x8<(x4.length:Int) then (iF k x3 x4 x5 (!(((aC x4 x8).f0)==x117000)||(!(((aC x4 x8).f1)==x117001))) x8 0 x1000 x1001 x1002 x117000 x117001) else (none)) else (none)) else (if x7=true then (if x4.length<8796093022208 then (fP k x3 (x4++[(⟨x117000,x117001⟩:cF)]) (wrap64 (x5+1)) x1000 x1001 x1002) else (none)) else (fP k x3 x4 (wrap64 (x5+1)) x1000 x1001 x1002))
def iF:Nat→Int→List (cF)→Int→Bool→Int→Int→List Int→Int→Int→Int→Int→Option ((List (cF))×Int×Int)
 | 0,_,_,_,_,_,_,_,_,_,_,_=>none
 | k+1,x3,x4,x5,x7,x8,x9,x1000,x1001,x1002,x117000,x117001=>if x9<x8 then (if x7=true then (if 0≤x9 then (if x9<(x4.length:Int) then (if 0≤x8 then (if x8<(x4.length:Int) then ((spec_l2Area.f ((aC x4 x9).f0) ((aC x4 x9).f1) ((aC x4 x8).f0) ((aC x4 x8).f1) x117000 x117001).bind fun t123=>(iF k x3 x4 x5 (t123 != 0) x8 (wrap64 (x9+1)) x1000 x1001 x1002 x117000 x117001)) else (none)) else (none)) else (none)) else (none)) else (gC k x3 x4 x5 x7 (wrap64 (x8+1)) x1000 x1001 x1002 x117000 x117001)) else (gC k x3 x4 x5 x7 (wrap64 (x8+1)) x1000 x1001 x1002 x117000 x117001)
end
def spec_l2Draw.f (k:Nat) (s0_0:List Int) (s0_1:Int) (s0_2:Int):Option ((List (cF))×Int×Int):=(spec_l1Below.f s0_0 s0_1 s0_2 4).bind fun bt101=>(fP k (wrap64 (3+bt101.1)) (([]:List (cF))) 0 s0_0 bt101.2.1 bt101.2.2)
def tY:Bool×List (List Nat×List Nat):=(true,[([],[]),([],[]),([0,1],[0,1]),([2],[2]),([],[]),([],[]),([4,5],[4,5]),([6],[6]),([],[]),([3,7,8],[3,7,8]),([9],[9]),([10,9,0,1,2,3,4,5,6,7,8,9,10],[10])])
def CN:List Nat:=[0,0,3,7,0,0,48,112,0,511,1023,2047]
theorem yU:iQ .any (iS Tryz.f60 15)=tY:=by kernel_rfl
theorem xQ:dM tY.2 CN=true:=by kernel_rfl
set_option maxHeartbeats 8000000 in
set_option maxRecDepth 100000 in
theorem lG (k : Nat) (g : Nat) (s0_0 : List Int) (s0_1 : Int) (s0_2 : Int) (r1 : List (cF)) (r2 : Int) (r3 : Int) (w0 w : World) (hI : dR w0 w g s0_0 s0_1 s0_2) (hB : Below w0.heap.size w0 w) (h : spec_l2Draw.f k s0_0 s0_1 s0_2 = some (r1, r2, r3)) :
  Calls Tryz.prog 60 #[.pointer (some ⟨g,0,none⟩)] w fun e w'=>∃ v0_:Value,e=.returned (v0_)∧Kd.R jW 28 w' w.heap.size (fun _=>True) v0_ r1∧dR w0 w' g s0_0 r2 r3∧Below w0.heap.size w0 w'∧cM w w' g none:=by
 have hu28:=Tryz.underlying28
 have HI0:=aE hI
 have HK:=aE (cM.refl w g none)
 have HL:=aE hB.size
 clear hI
 have HW0:=aE hB.size
 have HB:=aE hB
 clear hB
 unfold spec_l2Draw.f at h
 have H:=h
 clear h
 replace H:=eM H
 obtain ⟨⟨t101,t102,t103⟩,A2,H⟩:=H
 try dsimp only at H
 obtain ⟨y104,hy104⟩:∃ y_:List (cF),y_=(([]:List (cF))):=⟨_,rfl⟩
 first|(with_reducible replace H:=oO hy104 H)|(with_reducible replace H:=oP hy104 H)|rw [← hy104] at H
 have Ny104:=aE hy104
 clear hy104
 have H':=aE H
 clear H
 go_enter Tryz.func60,Tryz.ntmps60
 go_wp2_with (first|((with_reducible refine aJ (f:=61) rfl ?_);refine aV (some 11) Tryz.func61 #[.pointer (some ⟨g,0,none⟩),.int .i64 4] ?_;(with_reducible refine (dN g s0_0 s0_1 s0_2 4 t101 t102 t103 w0 _ ?side1 ?side2 A2.out).mono ?_);(case side1=>exact cQ HI0);(case side2=>exact gP HB (bD HI0.out));rintro e w3 ⟨rfl,hi,hb,hk⟩;refine ⟨_,rfl,?_⟩;replace HK:=aE (cM.trans (iZ HK) hk (.inl rfl));replace HB:=aE (hb);replace HI0:=aE (hi);(try clear hb);(try clear hk);(try clear hi))|((with_reducible refine aN (N:=13) rfl ?_);(try (refine fS (by rfl) ?_;dsimp only));refine Kd.R_lit jW _ 28 ?hg (N:=13) ?hd (xs:=([]:List (cF))) (inner:=[]) (ok:=fun _=>True) (okp:=fun _=>True) ?hr ?hp (fun _ hk=>hk) trivial (Below.refl _ _) (Nat.le_refl _) (by simp) ?_;(case hd=>rfl);(case hg=>rfl);(case hr=>first|(go_simp;done)|(go_simp;rfl));(case hp=>exact (kC.none _ _));intro v105 w4 ho5 hb hg_ hnew_;clear hg_ hnew_;(first|rw [← Ny104.out] at ho5|(simp only [Int.reduceToNat] at ho5;rw [← Ny104.out] at ho5));have HO106:=aE (Kd.R_lower ho5 (cR (w:=w) (g:=g) (row:=none) (iZ HK)));replace HK:=aE (cM.trans (iZ HK) (bZ hb g none) (.inl rfl));replace HB:=aE (aD (gP HB (bD HI0.out)) hb);replace HI0:=aE (dR.below (cQ HI0) hb);clear hb ho5))
 go_loopg [4,5] k (fun kq v4 v5 w'=>∃ (x4_1:List (cF)) (x5_1:Int) (x1001_1:Int) (x1002_1:Int),v5=.int .i64 x5_1∧Aside0 (fP kq (wrap64 (3+t101)) x4_1 x5_1 s0_0 x1001_1 x1002_1=some (r1,r2,r3))∧Aside0 (kq≤k)∧Aside0 (Kd.R jW 28 w' w.heap.size (fun _=>True) v4 x4_1)∧Aside0 (dR w0 w' g s0_0 x1001_1 x1002_1)∧Aside0 (cM w w' g none)∧Aside0 (Below w0.heap.size w0 w'))
 case atStart=>exact ⟨(y104),(0),(t102),(t103),aH,H',⟨Nat.le_refl _⟩,⟨bN HO106⟩,⟨cQ HI0⟩,⟨iZ HK⟩,⟨gP HB (bD HI0.out)⟩⟩
 case round =>
  clear H'
  obtain ⟨x4_1,x5_1,x1001_1,x1002_1,rfl,HA,HK1,HO_4,HI0,HK,HB⟩:=hrel
  cases gk with
  | zero=>exact absurd HA.out (by simp [fP])
  | succ k1 =>
   have H:=HA.out
   clear HA
   simp only [fP] at H
   have HC6:=aE H
   clear H
   go_upto_region 4 with (fail)
   go_cut [21] (fun v21 wc=>∃ (kq:Nat) (x21_5:Bool),v21=.bool x21_5∧Aside0 (iD kq (wrap64 (3+t101)) x4_1 x5_1 x21_5 s0_0 x1001_1 x1002_1=some (r1,r2,r3))∧Aside0 (kq≤k1)∧Aside0 (Kd.R jW 28 wc w.heap.size (fun _=>True) u4 x4_1)∧Aside0 (dR w0 wc g s0_0 x1001_1 x1002_1)∧Aside0 (cM w wc g none)∧Aside0 (Below w0.heap.size w0 wc))
   case first =>
    have H:=HC6.out
    clear HC6
    rcases eV H with ⟨c7b0,H⟩|⟨c7b0,H⟩
    ·(first|rw [c7b0]|(simp only [cC,dW];rw [c7b0])|skip)
     have H':=aE H
     clear H
     obtain ⟨Ao8,co8,eo8⟩:=Kd.R_slice HO_4.out
     subst eo8
     go_wp2
     go_meet
     case rel=>exact ⟨_,(decide ((x4_1.length:Int)<(wrap64 (3+t101)))),aH,H',⟨RK HK1⟩,⟨bN HO_4⟩,⟨cQ HI0⟩,⟨iZ HK⟩,⟨gP HB (bD HI0.out)⟩⟩
    ·(first|rw [c7b0]|(simp only [cC,dW];rw [c7b0])|skip)
     have H':=aE H
     clear H
     go_wp2
     go_meet
     case rel=>exact ⟨_,(false),aH,H',⟨RK HK1⟩,⟨bN HO_4⟩,⟨cQ HI0⟩,⟨iZ HK⟩,⟨gP HB (bD HI0.out)⟩⟩
   case rest =>
    clear HC6
    try clear c7b0
    obtain ⟨kq,x21_5,rfl,HA,HJ5,HO_4,HI0,HK,HB⟩:=hcut
    cases kq with
    | zero=>exact absurd HA.out (by simp [iD])
    | succ kj5 =>
     have H:=HA.out
     clear HA
     simp only [iD] at H
     by_cases c9:x21_5=true
     ·subst c9
      rw [if_pos rfl] at H
      replace H:=eM H
      obtain ⟨⟨t110,t111,t112⟩,A10,H⟩:=H
      try dsimp only at H
      replace H:=eM H
      obtain ⟨⟨t113,t114,t115⟩,A11,H⟩:=H
      try dsimp only at H
      have H':=aE H
      clear H
      go_wp2_with (first|((with_reducible refine aJ (f:=61) rfl ?_);refine aV (some 25) Tryz.func61 #[.pointer (some ⟨g,0,none⟩),.int .i64 13] ?_;(with_reducible refine (dN g s0_0 x1001_1 x1002_1 13 t110 t111 t112 w0 _ ?side1 ?side2 A10.out).mono ?_);(case side1=>exact cQ HI0);(case side2=>exact gP HB (bD HI0.out));rintro e w12 ⟨rfl,hi,hb,hk⟩;refine ⟨_,rfl,?_⟩;replace HO_4:=aE (Kd.R_mono (Kd.R_keep (dR.apart (show dR w0 _ g s0_0 x1001_1 x1002_1 from cQ HI0) (bN HO_4) (by decide)) hk (fun _ h=>h.2)) (fun _ h=>h.1));replace HK:=aE (cM.trans (iZ HK) hk (.inl rfl));replace HB:=aE (hb);replace HI0:=aE (hi);(try clear hb);(try clear hk);(try clear hi))|((with_reducible refine aJ (f:=61) rfl ?_);refine aV (some 28) Tryz.func61 #[.pointer (some ⟨g,0,none⟩),.int .i64 13] ?_;(with_reducible refine (dN g s0_0 t111 t112 13 t113 t114 t115 w0 _ ?side1 ?side2 A11.out).mono ?_);(case side1=>exact cQ HI0);(case side2=>exact gP HB (bD HI0.out));rintro e w13 ⟨rfl,hi,hb,hk⟩;refine ⟨_,rfl,?_⟩;replace HO_4:=aE (Kd.R_mono (Kd.R_keep (dR.apart (show dR w0 _ g s0_0 t111 t112 from cQ HI0) (bN HO_4) (by decide)) hk (fun _ h=>h.2)) (fun _ h=>h.1));replace HK:=aE (cM.trans (iZ HK) hk (.inl rfl));replace HB:=aE (hb);replace HI0:=aE (hi);(try clear hb);(try clear hk);(try clear hi))|((with_reducible refine aN (N:=6) rfl ?_);(try (refine fS (by rfl) ?_;dsimp only));refine bV (N:=6) #[.int .i64 0,.int .i64 0] 28 ?_;intro gb116 hg w14 hbox hb;replace HO_4:=aE (Kd.R_below (Kd.R_elderB (bN HO_4) gb116 (Nat.le_of_eq hg.symm)) hb);replace HB:=aE (aD (gP HB (bD HI0.out)) hb);have BK116:=aE (hbox);have GW116:=aE ((by rw [hg];exact (cR (w:=w) (g:=g) (row:=none) (iZ HK)):w.heap.size≤gb116));have GE116:=aE ((Nat.le_trans HW0.out (by rw [hg];exact (cR (w:=w) (g:=g) (row:=none) (iZ HK)):w.heap.size≤gb116):w0.heap.size≤gb116));replace HK:=aE (cM.trans (iZ HK) (bZ hb g none) (.inl rfl));have NB0_116:=aE ((by rw [hg];exact Nat.ne_of_lt (yT (show dR w0 _ g s0_0 t114 t115 from cQ HI0)):g≠gb116));have NB116_0:=aE ((by rw [hg];exact Nat.ne_of_gt (yT (show dR w0 _ g s0_0 t114 t115 from cQ HI0)):gb116≠g));replace HI0:=aE (dR.below (cQ HI0) hb);clear hb hbox hg;have hnb15:=NB116_0.out;have hnc15:=NB0_116.out;have hcz16_0:=aW BK116 0;have hcz16_1:=aW BK116 1;have hfz16_0:=aA BK116.out 0;have hfz16_1:=aA BK116.out 1))
      go_loopg [7,8] kj5 (fun kq v7 v8 w'=>∃ (x7_3:Bool) (x8_3:Int),v7=.bool x7_3∧v8=.int .i64 x8_3∧Aside0 (gC kq (wrap64 (3+t101)) x4_1 x5_1 x7_3 x8_3 s0_0 t114 t115 (wrap64 (t110-6)) (wrap64 (t113-6))=some (r1,r2,r3))∧Aside0 (kq≤kj5)∧Aside0 (Kd.R jW 28 w' w.heap.size (fun k_=>k_≠gb116) u4 x4_1)∧Aside0 (w'.heap[gb116]? = some (.cells #[.int .i64 (wrap64 (t110-6)),.int .i64 (wrap64 (t113-6))] 28 (0,0)))∧Aside0 (dR w0 w' g s0_0 t114 t115)∧Aside0 (cM w w' g none)∧Aside0 (Below w0.heap.size w0 w'))
      case atStart=>exact ⟨(true),(0),aH,aH,H',⟨Nat.le_refl _⟩,⟨by (with_reducible repeat (first|apply kD|apply kE|apply gU));exact Kd.R_mono (Kd.R_far (p:=⟨gb116,1,none⟩) (Kd.R_far (p:=⟨gb116,0,none⟩) (Kd.R_mono HO_4.out (fun k_ hk=>(⟨hk,hk.2⟩:_∧k_≠gb116))) (fun _ hk=>hk.2) (.int .i64 (wrap64 (t110-6)))) (fun _ hk=>hk.2) (.int .i64 (wrap64 (t113-6)))) (fun _ hk=>hk.1.2)⟩,⟨jR BK116⟩,⟨cQ HI0⟩,⟨by repeat (first|(with_reducible first|exact HK.out|apply cM.set_|apply eE|apply eU|apply eF|refine iB ?_ GW116.out _)|exact HK.out)⟩,⟨gP HB (bD HI0.out)⟩⟩
      case round =>
       clear H'
       try clear c7b0
       try clear c9
       try clear hcz16_0
       try clear hcz16_1
       try clear hfz16_0
       try clear hfz16_1
       obtain ⟨x7_3,x8_3,rfl,rfl,HA,HK3,HO_4,BK116,HI0,HK,HB⟩:=hrel
       cases gk with
       | zero=>exact absurd HA.out (by simp [gC])
       | succ k3 =>
        have H:=HA.out
        clear HA
        simp only [gC] at H
        have HC17:=aE H
        clear H
        go_upto_region 9 with (fail)
        go_cut [37] (fun v37 wc=>∃ (kq:Nat) (x37_16:Bool),v37=.bool x37_16∧Aside0 (gD kq (wrap64 (3+t101)) x4_1 x5_1 x7_3 x8_3 x37_16 s0_0 t114 t115 (wrap64 (t110-6)) (wrap64 (t113-6))=some (r1,r2,r3))∧Aside0 (kq≤k3)∧Aside0 (Kd.R jW 28 wc w.heap.size (fun k_=>k_≠gb116) u4 x4_1)∧Aside0 (wc.heap[gb116]? = some (.cells #[.int .i64 (wrap64 (t110-6)),.int .i64 (wrap64 (t113-6))] 28 (0,0)))∧Aside0 (dR w0 wc g s0_0 t114 t115)∧Aside0 (cM w wc g none)∧Aside0 (Below w0.heap.size w0 wc))
        case first =>
         have H:=HC17.out
         clear HC17
         rcases eV H with ⟨c18b0,H⟩|⟨c18b0,H⟩
         ·(first|rw [c18b0]|(simp only [cC,dW];rw [c18b0])|skip)
          have H':=aE H
          clear H
          obtain ⟨Ao19,co19,eo19⟩:=Kd.R_slice HO_4.out
          subst eo19
          go_wp2
          go_meet
          case rel=>exact ⟨_,(x7_3),aH,H',⟨by have:=HK1.out;have:=HJ5.out;have:=HK3.out;first|omega|exact Nat.le_refl _⟩,⟨bN HO_4⟩,⟨fO BK116⟩,⟨cQ HI0⟩,⟨by repeat (first|(with_reducible first|exact HK.out|apply cM.set_|apply eE|apply eU|apply eF|refine iB ?_ GW116.out _)|exact HK.out)⟩,⟨gP HB (bD HI0.out)⟩⟩
         ·(first|rw [c18b0]|(simp only [cC,dW];rw [c18b0])|skip)
          have H':=aE H
          clear H
          obtain ⟨Ao20,co20,eo20⟩:=Kd.R_slice HO_4.out
          subst eo20
          go_wp2
          go_meet
          case rel=>exact ⟨_,(false),aH,H',⟨by have:=HK1.out;have:=HJ5.out;have:=HK3.out;first|omega|exact Nat.le_refl _⟩,⟨bN HO_4⟩,⟨fO BK116⟩,⟨cQ HI0⟩,⟨by repeat (first|(with_reducible first|exact HK.out|apply cM.set_|apply eE|apply eU|apply eF|refine iB ?_ GW116.out _)|exact HK.out)⟩,⟨gP HB (bD HI0.out)⟩⟩
        case rest =>
         clear HC17
         try clear c7b0
         try clear c9
         try clear c18b0
         try clear hcz16_0
         try clear hcz16_1
         try clear hfz16_0
         try clear hfz16_1
         obtain ⟨kq,x37_16,rfl,HA,HJ16,HO_4,BK116,HI0,HK,HB⟩:=hcut
         cases kq with
         | zero=>exact absurd HA.out (by simp [gD])
         | succ kj16 =>
          have H:=HA.out
          clear HA
          simp only [gD] at H
          by_cases c21:x37_16=true
          ·subst c21
           rw [if_pos rfl] at H
           obtain ⟨c22b0,H⟩:=cV H
           obtain ⟨c23b0,H⟩:=cV H
           have H':=aE H
           clear H
           try go_wp2
           replace HO_4:=aE (gU HO_4.out)
           replace BK116:=aE (aI BK116.out)
           replace HI0:=aE (dR.drew HI0.out)
           replace HK:=aE (eU HK.out)
           replace HB:=aE (jK HB.out)
           obtain ⟨Ao25,co25,eo25⟩:=Kd.R_slice HO_4.out
           (first|subst eo25|(injection eo25 with f1_ f2_ f3_;have f4_:=f1_.symm;have f5_:=f3_.symm;clear f1_ f2_ f3_;subst f4_;subst f5_))
           obtain ⟨p120,q120,ad120,e120,hx120_0,hx120_1⟩:=jP (bW (Kd.R_reads' HO_4.out).2.2 x8_3)
           cases e120
           refine dA (n:=7) (S:=fun w'=>w'.cell? ⟨gb116,0,none⟩=some (.int .i64 (wrap64 (t110-6)))∧w'.cell? ⟨gb116,1,none⟩=some (.int .i64 (wrap64 (t113-6)))∧w'.cell? (ad120.add ((x8_3).toNat*2))=some (.int .i64 ((aC x4_1 x8_3).f0))∧w'.cell? ⟨(ad120.add ((x8_3).toNat*2)).block,(ad120.add ((x8_3).toNat*2)).off+1,none⟩=some (.int .i64 ((aC x4_1 x8_3).f1))) (ds:=[]) (bm 7 0) (by kernel_rfl) rfl rfl ⟨aW BK116 0,aW BK116 1,hx120_0,hx120_1⟩ (fun hHeld=>?_)
           generalize wc.drew=w24 at HO_4 BK116 HI0 HK HB hx120_0 hx120_1 hHeld ⊢
           refine uX (i:=0) (N:=some 40) (v:=?_) (a':=?_) (bm 7 1) rfl rfl (by kernel_rfl) (fun _ _ _ h=>h) (Or.inl ⟨by rfl,?_⟩) ?_ ?_
           rotate_left
           ·intro w'
            go_simp
            with_reducible rfl
           rotate_left
           ·simp only [Act.put,List.setIfInBounds_toArray,List.set_cons_zero,List.set_cons_succ,cC,dW]
            rfl
           refine uX (i:=1) (N:=some 41) (v:=?_) (a':=?_) (bm 7 3) rfl rfl (by kernel_rfl) (fun _ _ _ h=>h) (Or.inl ⟨by rfl,?_⟩) ?_ ?_
           rotate_left
           ·intro w'
            go_simp
            with_reducible rfl
           rotate_left
           ·simp only [Act.put,List.setIfInBounds_toArray,List.set_cons_zero,List.set_cons_succ,cC,dW]
            rfl
           refine uX (i:=2) (N:=some 42) (v:=?_) (a':=?_) (bm 7 7) rfl rfl (by kernel_rfl) (fun _ _ _ h=>h) (Or.inl ⟨by rfl,?_⟩) ?_ ?_
           rotate_left
           ·intro w'
            go_simp
            with_reducible rfl
           rotate_left
           ·simp only [Act.put,List.setIfInBounds_toArray,List.set_cons_zero,List.set_cons_succ,cC,dW]
            rfl
           refine qW (i:=3) (N:=some 43) (v:=?_) (a':=?_) (bm 7 15) rfl rfl (by kernel_rfl) (fun _ _ _ h=>h) (Or.inl ⟨by rfl,?_⟩) hHeld ?_ ?_
           rotate_left
           ·rintro w' ⟨s0,s1,s2,s3⟩
            go_simp
            with_reducible rfl
           rotate_left
           ·simp only [Act.put,List.setIfInBounds_toArray,List.set_cons_zero,List.set_cons_succ,cC,dW]
            rfl
           refine qW (i:=4) (N:=some 44) (v:=?_) (a':=?_) (bm 7 31) rfl rfl (by kernel_rfl) (fun _ _ _ h=>h) (Or.inl ⟨by rfl,?_⟩) hHeld ?_ ?_
           rotate_left
           ·rintro w' ⟨s0,s1,s2,s3⟩
            go_simp
            with_reducible rfl
           rotate_left
           ·simp only [Act.put,List.setIfInBounds_toArray,List.set_cons_zero,List.set_cons_succ,cC,dW]
            rfl
           refine uX (i:=5) (N:=some 45) (v:=?_) (a':=?_) (bm 7 63) rfl rfl (by kernel_rfl) (fun _ _ _ h=>h) (Or.inl ⟨by rfl,?_⟩) ?_ ?_
           rotate_left
           ·intro w'
            go_simp
            with_reducible rfl
           rotate_left
           ·simp only [Act.put,List.setIfInBounds_toArray,List.set_cons_zero,List.set_cons_succ,cC,dW]
            rfl
           refine uX (i:=6) (N:=some 7) (v:=?_) (a':=?_) (bm 7 127) rfl rfl (by kernel_rfl) (fun _ _ _ h=>h) (Or.inl ⟨by rfl,?_⟩) ?_ ?_
           rotate_left
           ·intro w'
            go_simp
            with_reducible rfl
           rotate_left
           ·simp only [Act.put,List.setIfInBounds_toArray,List.set_cons_zero,List.set_cons_succ,cC,dW]
            rfl
           refine eN (by kernel_rfl) ?_
           try go_wp2
           go_loopg [7,9] kj16 (fun kq v7 v9 w'=>∃ (x7_5:Bool) (x9_5:Int),v7=.bool x7_5∧v9=.int .i64 x9_5∧Aside0 (iF kq (wrap64 (3+t101)) x4_1 x5_1 x7_5 x8_3 x9_5 s0_0 t114 t115 (wrap64 (t110-6)) (wrap64 (t113-6))=some (r1,r2,r3))∧Aside0 (kq≤kj16)∧Aside0 (Kd.R jW 28 w' w.heap.size (fun k_=>k_≠gb116) (.slice (some ad120) x4_1.length co25) x4_1)∧Aside0 (w'.heap[gb116]? = some (.cells #[.int .i64 (wrap64 (t110-6)),.int .i64 (wrap64 (t113-6))] 28 (0,0)))∧Aside0 (dR w0 w' g s0_0 t114 t115)∧Aside0 (cM w w' g none)∧Aside0 (Below w0.heap.size w0 w'))
           case atStart=>exact ⟨((!(((aC x4_1 x8_3).f0)==(wrap64 (t110-6)))||(!(((aC x4_1 x8_3).f1)==(wrap64 (t113-6)))))),(0),aH,aH,H',⟨Nat.le_refl _⟩,⟨bN HO_4⟩,⟨fO BK116⟩,⟨cQ HI0⟩,⟨by repeat (first|(with_reducible first|exact HK.out|apply cM.set_|apply eE|apply eU|apply eF|refine iB ?_ GW116.out _)|exact HK.out)⟩,⟨gP HB (bD HI0.out)⟩⟩
           case round =>
            clear H'
            try clear c2
            try clear c7b0
            try clear c9
            try clear c18b0
            try clear c21
            try clear c22b0
            try clear c23b0
            try clear hcz16_0
            try clear hcz16_1
            try clear hfz16_0
            try clear hfz16_1
            try clear hx120_0
            try clear hx120_1
            try clear p120
            try clear q120
            obtain ⟨x7_5,x9_5,rfl,rfl,HA,HK5,HO_4,BK116,HI0,HK,HB⟩:=hrel
            cases gk with
            | zero=>exact absurd HA.out (by simp [iF])
            | succ k5 =>
             have H:=HA.out
             clear HA
             simp only [iF] at H
             rcases eV H with ⟨c26b0,H⟩|⟨c26b0,H⟩
             ·by_cases c27:x7_5=true
              ·subst c27
               rw [if_pos rfl] at H
               obtain ⟨c28b0,H⟩:=cV H
               obtain ⟨c29b0,H⟩:=cV H
               obtain ⟨c30b0,H⟩:=cV H
               obtain ⟨c31b0,H⟩:=cV H
               replace H:=DB H
               obtain ⟨t123,A320,H⟩:=H
               replace H:(iF k5 (wrap64 (3+t101)) x4_1 x5_1 (t123 != 0) x8_3 (wrap64 (x9_5+1)) s0_0 t114 t115 (wrap64 (t110-6)) (wrap64 (t113-6)))=some (r1,r2,r3):=H
               have A32:=aE A320
               clear A320
               have H':=aE H
               clear H
               try go_wp2
               replace HO_4:=aE (gU HO_4.out)
               replace BK116:=aE (aI BK116.out)
               replace HI0:=aE (dR.drew HI0.out)
               replace HK:=aE (eU HK.out)
               replace HB:=aE (jK HB.out)
               obtain ⟨p121,q121,ad121,e121,hx121_0,hx121_1⟩:=jP (bW (Kd.R_reads' HO_4.out).2.2 x9_5)
               obtain rfl:ad120=ad121:=(by injection e121)
               obtain ⟨p122,q122,ad122,e122,hx122_0,hx122_1⟩:=jP (bW (Kd.R_reads' HO_4.out).2.2 x8_3)
               obtain rfl:ad120=ad122:=(by injection e122)
               refine dA (n:=12) (S:=fun w'=>w'.cell? ⟨gb116,0,none⟩=some (.int .i64 (wrap64 (t110-6)))∧w'.cell? ⟨gb116,1,none⟩=some (.int .i64 (wrap64 (t113-6)))∧w'.cell? (ad120.add ((x9_5).toNat*2))=some (.int .i64 ((aC x4_1 x9_5).f0))∧w'.cell? ⟨(ad120.add ((x9_5).toNat*2)).block,(ad120.add ((x9_5).toNat*2)).off+1,none⟩=some (.int .i64 ((aC x4_1 x9_5).f1))∧w'.cell? (ad120.add ((x8_3).toNat*2))=some (.int .i64 ((aC x4_1 x8_3).f0))∧w'.cell? ⟨(ad120.add ((x8_3).toNat*2)).block,(ad120.add ((x8_3).toNat*2)).off+1,none⟩=some (.int .i64 ((aC x4_1 x8_3).f1))) (ds:=[]) (bm 12 0) (by kernel_rfl) rfl rfl ⟨aW BK116 0,aW BK116 1,hx121_0,hx121_1,hx122_0,hx122_1⟩ (fun hHeld=>?_);refine bO yU xQ (fun HT_ HW_=>?_)
               generalize wr.drew=w33 at HO_4 BK116 HI0 HK HB hx121_0 hx121_1 hx122_0 hx122_1 hHeld ⊢
               refine bU ((0,0,54,1)::(0,1,55,3)::(0,2,56,7)::(0,4,58,23)::(0,5,59,55)::(0,6,60,119)::(2,3,57,127)::(2,7,61,255)::(2,8,62,511)::[]) ?_
               iterate 9 (first|refine jT HT_ ?_|refine pZ HT_ HW_ hHeld ?_)
               refine aU ?_
               refine dQ (i:=9) (N:=some 63) (bm 12 1023) rfl rfl (bJ HT_.out (by kernel_rfl)) (by decide) (fun K hK=>?_)
               refine cN Tryz.func53 #[.agg #[.int .i64 ((aC x4_1 x9_5).f0),.int .i64 ((aC x4_1 x9_5).f1)],.agg #[.int .i64 ((aC x4_1 x8_3).f0),.int .i64 ((aC x4_1 x8_3).f1)],.agg #[.int .i64 (wrap64 (t110-6)),.int .i64 (wrap64 (t113-6))]] ?_
               with_reducible refine (gX ((aC x4_1 x9_5).f0) ((aC x4_1 x9_5).f1) ((aC x4_1 x8_3).f0) ((aC x4_1 x8_3).f1) (wrap64 (t110-6)) (wrap64 (t113-6)) t123 _ A32.out).mono ?_
               rintro e w34 ⟨rfl,hb⟩
               have HS2_:=uV hb hHeld.2.2.1
               have HS3_:=uV hb hHeld.2.2.2.1
               have HS4_:=uV hb hHeld.2.2.2.2.1
               have HS5_:=uV hb hHeld.2.2.2.2.2
               refine ⟨_,rfl,?_⟩
               replace HO_4:=aE (Kd.R_below (bN HO_4) hb)
               replace BK116:=aE (bB BK116 hb)
               replace HK:=aE (cM.trans (by repeat (first|(with_reducible first|exact HK.out|apply cM.set_|apply eE|apply eU|apply eF|refine iB ?_ GW116.out _)|exact HK.out)) (bZ hb g none) (.inl rfl))
               replace HB:=aE (aD (gP HB (bD HI0.out)) hb)
               replace HI0:=aE (dR.below (cQ HI0) hb)
               (try clear hb)
               (try clear hk)
               (try clear hi)
               refine hK.out _ _ ⟨aW BK116 0,aW BK116 1,HS2_,HS3_,HS4_,HS5_⟩ (fun hHeld=>?_)
               clear hK K
               refine gA ?_
               refine bU ((0,10,64,2047)::(0,11,7,4095)::[]) ?_
               iterate 2 (first|refine jT HT_ ?_)
               refine aU ?_
               refine eN (cK HT_.out (by kernel_rfl)) ?_
               try go_wp2
               go_roundg k5
               case measure=>have:=HK1.out;have:=HJ5.out;have:=HK3.out;have:=HJ16.out;have:=HK5.out;omega
               case rel=>exact ⟨((t123 != 0)),(wrap64 (x9_5+1)),aH,aH,H',⟨by have:=HK1.out;have:=HJ5.out;have:=HK3.out;have:=HJ16.out;have:=HK5.out;omega⟩,⟨bN HO_4⟩,⟨fO BK116⟩,⟨cQ HI0⟩,⟨by repeat (first|(with_reducible first|exact HK.out|apply cM.set_|apply eE|apply eU|apply eF|refine iB ?_ GW116.out _)|exact HK.out)⟩,⟨gP HB (bD HI0.out)⟩⟩
              ·replace c27:=Bool.eq_false_iff.mpr c27
               subst c27
               rw [if_neg (show ¬ (false=true) by decide)] at H
               have H':=aE H
               clear H
               go_wp2
               go_roundg k5
               case measure=>have:=HK1.out;have:=HJ5.out;have:=HK3.out;have:=HJ16.out;have:=HK5.out;omega
               case rel=>exact ⟨(false),(wrap64 (x8_3+1)),aH,aH,H',⟨by have:=HK1.out;have:=HJ5.out;have:=HK3.out;have:=HJ16.out;have:=HK5.out;omega⟩,⟨bN HO_4⟩,⟨fO BK116⟩,⟨cQ HI0⟩,⟨by repeat (first|(with_reducible first|exact HK.out|apply cM.set_|apply eE|apply eU|apply eF|refine iB ?_ GW116.out _)|exact HK.out)⟩,⟨gP HB (bD HI0.out)⟩⟩
             ·have H':=aE H
              clear H
              go_wp2
              go_roundg k5
              case measure=>have:=HK1.out;have:=HJ5.out;have:=HK3.out;have:=HJ16.out;have:=HK5.out;omega
              case rel=>exact ⟨(x7_5),(wrap64 (x8_3+1)),aH,aH,H',⟨by have:=HK1.out;have:=HJ5.out;have:=HK3.out;have:=HJ16.out;have:=HK5.out;omega⟩,⟨bN HO_4⟩,⟨fO BK116⟩,⟨cQ HI0⟩,⟨by repeat (first|(with_reducible first|exact HK.out|apply cM.set_|apply eE|apply eU|apply eF|refine iB ?_ GW116.out _)|exact HK.out)⟩,⟨gP HB (bD HI0.out)⟩⟩
          ·replace c21:=Bool.eq_false_iff.mpr c21
           subst c21
           rw [if_neg (show ¬ (false=true) by decide)] at H
           by_cases c35:x7_3=true
           ·subst c35
            rw [if_pos rfl] at H
            obtain ⟨c36,H⟩:=gQ H
            have LMc36:=aE c36
            clear c36
            obtain ⟨y117,hy117⟩:∃ y_:List (cF),y_=(x4_1++[(⟨(wrap64 (t110-6)),(wrap64 (t113-6))⟩:cF)]):=⟨_,rfl⟩
            first|(with_reducible replace H:=oO hy117 H)|(with_reducible replace H:=oP hy117 H)|rw [← hy117] at H
            have Ny117:=aE hy117
            clear hy117
            have H':=aE H
            clear H
            have hnb37:=NB116_0.out
            have hnc37:=NB0_116.out
            have hcz38_0:=aW BK116 0
            have hcz38_1:=aW BK116 1
            have hfz38_0:=aA BK116.out 0
            have hfz38_1:=aA BK116.out 1
            go_wp2_with (first|((with_reducible refine cT (b:=.append) (xs:=#[.tmp 66,.tmp 68]) rfl ?_);(try (refine fS (by rfl) ?_;dsimp only));at_builtin;refine Kd.R_append jW w.heap.size rfl (.tmp 66) (.tmp 68) 24 28 (.agg #[(.int .i64 0),(.int .i64 0)]) 16 rfl Tryz.underlying24 IA rfl (by decide) (by omega) u4 x4_1 (⟨(wrap64 (t110-6)),(wrap64 (t113-6))⟩:cF) [.int .i64 (wrap64 (t110-6)),.int .i64 (wrap64 (t113-6))] (fun k_=>k_≠gb116) (fun _=>False) rfl rfl ?aP (fun _ hk=>hk.elim) ?aF ?aO (Below.refl _ _) ?aS ?aL ?_;(case aP=>exact jO _ _ _ (⟨(wrap64 (t110-6)),(wrap64 (t113-6))⟩:cF));(case aF=>exact (fun k_ hk=>Kd.freshB (g:=gb116) (o:=.cells #[.int .i64 (wrap64 (t110-6)),.int .i64 (wrap64 (t113-6))] 28 (0,0)) (fO BK116) k_ hk));(case aO=>exact (bN HO_4));(case aS=>exact (cR (w:=w) (g:=g) (row:=none) (by repeat (first|(with_reducible first|exact HK.out|apply cM.set_|apply eE|apply eU|apply eF|refine iB ?_ GW116.out _)|exact HK.out))));(case aL=>have:=LMc36.out;omega);intro v118 w39 ho hb hg hat;rw [← Ny117.out] at ho;replace BK116:=aE (kL (g:=gb116) (o:=.cells #[.int .i64 (wrap64 (t110-6)),.int .i64 (wrap64 (t113-6))] 28 (0,0)) (fO BK116) hg (Kd.R_away HO_4.out (fun _ hk=>hk)));replace HB:=aE (sX (gP HB (bD HI0.out)) HL.out hb);replace HI0:=aE (dR.grown (cQ HI0) hg (mP HI0.out HO_4.out (by decide)));replace HK:=aE (cM.trans (by repeat (first|(with_reducible first|exact HK.out|apply cM.set_|apply eE|apply eU|apply eF|refine iB ?_ GW116.out _)|exact HK.out)) (kM hg g) (Kd.R_base2 HO_4.out));have HO119:=aE (ho);clear HO_4;clear ho hb hg hat))
            go_roundg kj16
            case measure=>have:=HK1.out;have:=HJ5.out;have:=HK3.out;have:=HJ16.out;omega
            case rel=>exact ⟨(y117),(wrap64 (x5_1+1)),(t114),(t115),aH,H',⟨by have:=HK1.out;have:=HJ5.out;have:=HK3.out;have:=HJ16.out;omega⟩,⟨by (with_reducible repeat (first|apply kD|apply kE|apply gU));exact Kd.R_mono HO119.out (fun _ hk=>trivial)⟩,⟨cQ HI0⟩,⟨by repeat (first|(with_reducible first|exact HK.out|apply cM.set_|apply eE|apply eU|apply eF|refine iB ?_ GW116.out _)|exact HK.out)⟩,⟨gP HB (bD HI0.out)⟩⟩
           ·replace c35:=Bool.eq_false_iff.mpr c35
            subst c35
            rw [if_neg (show ¬ (false=true) by decide)] at H
            have H':=aE H
            clear H
            go_wp2
            go_roundg kj16
            case measure=>have:=HK1.out;have:=HJ5.out;have:=HK3.out;have:=HJ16.out;omega
            case rel=>exact ⟨(x4_1),(wrap64 (x5_1+1)),(t114),(t115),aH,H',⟨by have:=HK1.out;have:=HJ5.out;have:=HK3.out;have:=HJ16.out;omega⟩,⟨by (with_reducible repeat (first|apply kD|apply kE|apply gU));exact Kd.R_mono HO_4.out (fun _ hk=>trivial)⟩,⟨cQ HI0⟩,⟨by repeat (first|(with_reducible first|exact HK.out|apply cM.set_|apply eE|apply eU|apply eF|refine iB ?_ GW116.out _)|exact HK.out)⟩,⟨gP HB (bD HI0.out)⟩⟩
     ·replace c9:=Bool.eq_false_iff.mpr c9
      subst c9
      rw [if_neg (show ¬ (false=true) by decide)] at H
      rcases jE H with ⟨c40,H⟩|⟨c40,H⟩
      ·have c40b0:=decide_eq_true c40
       have c40b1:decide (x4_1.length<3)=true:=decide_eq_true (by omega)
       clear c40
       obtain ⟨y107,hy107⟩:∃ y_:List (cF),y_=(([(⟨0,0⟩:cF),(⟨4,1⟩:cF),(⟨1,3⟩:cF),(⟨2,2⟩:cF)]:List (cF))):=⟨_,rfl⟩
       first|(with_reducible replace H:=oO hy107 H)|(with_reducible replace H:=oP hy107 H)|rw [← hy107] at H
       have Ny107:=aE hy107
       clear hy107
       simp only [Option.some.injEq,Prod.mk.injEq] at H
       obtain ⟨rfl,rfl,rfl⟩:=H
       obtain ⟨Ao41,co41,eo41⟩:=Kd.R_slice HO_4.out
       subst eo41
       go_wp2_with (first|((with_reducible refine aN (N:=77) rfl ?_);(try (refine fS (by rfl) ?_;dsimp only));refine Kd.R_lit jW _ 28 ?hg (N:=77) ?hd (xs:=([(⟨0,0⟩:cF),(⟨4,1⟩:cF),(⟨1,3⟩:cF),(⟨2,2⟩:cF)]:List (cF))) (inner:=[.int .i64 0,.int .i64 0,.int .i64 4,.int .i64 1,.int .i64 1,.int .i64 3,.int .i64 2,.int .i64 2]) (ok:=fun _=>True) (okp:=fun _=>True) ?hr ?hp (fun _ hk=>hk) trivial (Below.refl _ _) (Nat.le_refl _) (by simp) ?_;(case hd=>rfl);(case hg=>rfl);(case hr=>first|(go_simp;done)|(go_simp;rfl));(case hp=>exact (lF (show Kd.M jW _ _ _ (⟨0,0⟩:cF) [.int .i64 0,.int .i64 0] from (jO _ _ _ (⟨0,0⟩:cF) )) (lF (show Kd.M jW _ _ _ (⟨4,1⟩:cF) [.int .i64 4,.int .i64 1] from (jO _ _ _ (⟨4,1⟩:cF) )) (lF (show Kd.M jW _ _ _ (⟨1,3⟩:cF) [.int .i64 1,.int .i64 3] from (jO _ _ _ (⟨1,3⟩:cF) )) (lF (show Kd.M jW _ _ _ (⟨2,2⟩:cF) [.int .i64 2,.int .i64 2] from (jO _ _ _ (⟨2,2⟩:cF) )) (kC.none _ _))))));intro v108 w42 ho43 hb hg_ hnew_;clear hg_ hnew_;(first|rw [← Ny107.out] at ho43|(simp only [Int.reduceToNat] at ho43;rw [← Ny107.out] at ho43));have HO109:=aE (Kd.R_lower (Kd.R_new' ho43 (Kd.R_lt (bN HO_4))) (cR (w:=w) (g:=g) (row:=none) (iZ HK)));replace HO_4:=aE (Kd.R_elder' (bN HO_4) (Kd.R_base ho43) hb);replace HK:=aE (cM.trans (iZ HK) (bZ hb g none) (.inl rfl));replace HB:=aE (aD (gP HB (bD HI0.out)) hb);replace HI0:=aE (dR.below (cQ HI0) hb);clear hb ho43))
       go_ret
       exact ⟨_,bP,by (with_reducible repeat (first|apply kD|apply kE|apply gU));exact Kd.R_mono HO109.out (fun _ hk=>trivial),cQ HI0,gP HB (bD HI0.out),iZ HK⟩
      ·have c40b0:=decide_eq_false c40
       have c40b1:decide (x4_1.length<3)=false:=decide_eq_false (by omega)
       clear c40
       simp only [Option.some.injEq,Prod.mk.injEq] at H
       obtain ⟨rfl,rfl,rfl⟩:=H
       obtain ⟨Ao44,co44,eo44⟩:=Kd.R_slice HO_4.out
       subst eo44
       go_wp2
       go_ret
       exact ⟨_,bP,bN HO_4,cQ HI0,gP HB (bD HI0.out),iZ HK⟩
end Go.Proofs.YteaagaekdkolnaaGreat.P

namespace Go.Proofs.YteaagaekdkolnaaGreat.P
open Go.RowKit Go.Proofs.YteaagaekdkolnaaGreatW.PrintWords Go.Proofs.YteaagaekdkolnaaGreatW.PrintLast Go.Proofs.YteaagaekdkolnaaGreatW.PrintMore
attribute [local go_sem] max2_int min2_int max_two min_two max_three min_three max_four min_four
set_option linter.unusedVariables false
set_option linter.unusedSimpArgs false
/-! ### spec_l1PickInt: function 62 -/
def spec_l1PickInt.f (s0_0:List Int) (s0_1:Int) (s0_2:Int) (l1:List Int):Option (Int×Int×Int):=(spec_l1Below.f s0_0 s0_1 s0_2 (l1.length:Int)).bind fun bt101=>(if 0≤bt101.1 then (if bt101.1<(l1.length:Int) then (some (rd l1 bt101.1,bt101.2.1,bt101.2.2)) else (none)) else (none))
set_option maxHeartbeats 8000000 in
set_option maxRecDepth 100000 in
theorem nT (g:Nat) (s0_0:List Int) (s0_1:Int) (s0_2:Int) (A1:Option Addr) (c1:Nat) (l1:List Int) (r1:Int) (r2:Int) (r3:Int) (w0 w:World) (hI:dR w0 w g s0_0 s0_1 s0_2) (hB:Below w0.heap.size w0 w) (hr1:Kd.C (Kd.int .i64) w A1 l1.length l1) (hc1:l1.length≤c1) (hf1:∀ ad,A1=some ad→0<l1.length→ad.block≠g) (h:spec_l1PickInt.f s0_0 s0_1 s0_2 l1=some (r1,r2,r3)) :
  Calls Tryz.prog 62 #[.pointer (some ⟨g,0,none⟩),.slice A1 l1.length c1] w fun e w'=>e=.returned (.int .i64 r1)∧dR w0 w' g s0_0 r2 r3∧Below w0.heap.size w0 w'∧cM w w' g none:=by
 have HR1:=aE hr1
 have HC1:=aE hc1
 clear hr1 hc1
 have HI0:=aE hI
 have HK:=aE (cM.refl w g none)
 have HL:=aE hB.size
 clear hI
 have HW0:=aE hB.size
 have HB:=aE hB
 clear hB
 unfold spec_l1PickInt.f at h
 have H:=h
 clear h
 replace H:=eM H
 obtain ⟨⟨t101,t102,t103⟩,A3,H⟩:=H
 try dsimp only at H
 obtain ⟨c4b0,H⟩:=cV H
 obtain ⟨c5b0,H⟩:=cV H
 simp only [Option.some.injEq,Prod.mk.injEq] at H
 obtain ⟨rfl,rfl,rfl⟩:=H
 go_enter Tryz.func62,Tryz.ntmps62
 go_wp2_with (first|((with_reducible refine aJ (f:=61) rfl ?_);refine aV (some 9) Tryz.func61 #[.pointer (some ⟨g,0,none⟩),.int .i64 (l1.length:Int)] ?_;(with_reducible refine (dN g s0_0 s0_1 s0_2 (l1.length:Int) t101 t102 t103 w0 _ ?side1 ?side2 A3.out).mono ?_);(case side1=>exact cQ HI0);(case side2=>exact gP HB (bD HI0.out));rintro e w6 ⟨rfl,hi,hb,hk⟩;refine ⟨_,rfl,?_⟩;replace HK:=aE (cM.trans (iZ HK) hk (.inl rfl));replace HB:=aE (hb);replace HI0:=aE (hi);(try clear hb);(try clear hk);(try clear hi);have p104:0≤(t101:Int):=bI;have q104:t101<(l1.length:Int):=bI;obtain ⟨ad104,e104,hx104_0⟩:=Kd.at_int HR1.out t101 p104 q104;cases e104;replace hx104_0:=ON HK.out hx104_0 (by first|(rw [dV];exact hf1 _ rfl (by omega))|exact hf1 _ rfl (by omega)|exact hf1 ad104 rfl (by omega));replace p104:=eq_true p104;replace q104:=eq_true q104))
 go_ret
 exact ⟨bP,cQ HI0,gP HB (bD HI0.out),iZ HK⟩
/-! ### spec_l2Bent: function 28 -/
def spec_l2Bent.f (k:Nat) (s0_0:List Int) (s0_1:Int) (s0_2:Int):Option ((List (cF))×Int×Int):=(spec_l2Draw.f k s0_0 s0_1 s0_2).bind fun bt101=>((spec_l1Below.f s0_0 bt101.2.1 bt101.2.2 14).bind fun bt106=>(if bt106.1=0 then ((spec_l1PickInt.f s0_0 bt106.2.1 bt106.2.2 (([50,51,(-51)]:List Int))).bind fun bt112=>(if 0<(bt101.1.length:Int) then (some ((bt101.1.set (0:Int).toNat (⟨bt112.1,(aC bt101.1 0).f1⟩:cF)),bt112.2.1,bt112.2.2)) else (none))) else (if bt106.1=1 then (if 0<(bt101.1.length:Int) then (if bt101.1.length<8796093022208 then (some ((bt101.1++[(⟨(aC bt101.1 0).f0,(aC bt101.1 0).f1⟩:cF)]),bt106.2.1,bt106.2.2)) else (none)) else (none)) else (some (bt101.1,bt106.2.1,bt106.2.2)))))
set_option maxHeartbeats 8000000 in
set_option maxRecDepth 100000 in
theorem qZ (k:Nat) (g:Nat) (s0_0:List Int) (s0_1:Int) (s0_2:Int) (r1:List (cF)) (r2:Int) (r3:Int) (w0 w:World) (hI:dR w0 w g s0_0 s0_1 s0_2) (hB:Below w0.heap.size w0 w) (h:spec_l2Bent.f k s0_0 s0_1 s0_2=some (r1,r2,r3)) :
  Calls Tryz.prog 28 #[.pointer (some ⟨g,0,none⟩)] w fun e w'=>∃ v0_:Value,e=.returned (v0_)∧Kd.R jW 28 w' w.heap.size (fun _=>True) v0_ r1∧dR w0 w' g s0_0 r2 r3∧Below w0.heap.size w0 w'∧cM w w' g none:=by
 have hu28:=Tryz.underlying28
 have HI0:=aE hI
 have HK:=aE (cM.refl w g none)
 have HL:=aE hB.size
 clear hI
 have HW0:=aE hB.size
 have HB:=aE hB
 clear hB
 unfold spec_l2Bent.f at h
 have H:=h
 clear h
 replace H:=eM H
 obtain ⟨⟨t101,t104,t105⟩,A2,H⟩:=H
 try dsimp only at H
 replace H:=eM H
 obtain ⟨⟨t106,t107,t108⟩,A3,H⟩:=H
 try dsimp only at H
 rcases jE H with ⟨c4,H⟩|⟨c4,H⟩
 ·have c4b0:(t106==0)=true:=beq_iff_eq.mpr c4
  have c4b1:(t106 != 0)=false:=bne_eq_false_iff_eq.mpr c4
  clear c4
  obtain ⟨y109,hy109⟩:∃ y_:List Int,y_=(([50,51,(-51)]:List Int)):=⟨_,rfl⟩
  first|(with_reducible replace H:=oO hy109 H)|(with_reducible replace H:=oP hy109 H)|rw [← hy109] at H
  have Ny109:=aE hy109
  clear hy109
  replace H:=eM H
  obtain ⟨⟨t112,t113,t114⟩,A5,H⟩:=H
  try dsimp only at H
  obtain ⟨c6,H⟩:=gQ H
  have c6b0:=decide_eq_true c6
  have c6b1:decide (0<t101.length)=true:=decide_eq_true (by omega)
  clear c6
  obtain ⟨y115,hy115⟩:∃ y_:List (cF),y_=(t101.set (0:Int).toNat (⟨t112,(aC t101 0).f1⟩:cF)):=⟨_,rfl⟩
  first|(with_reducible replace H:=oO hy115 H)|(with_reducible replace H:=oP hy115 H)|rw [← hy115] at H
  have Ny115:=aE hy115
  clear hy115
  simp only [Option.some.injEq,Prod.mk.injEq] at H
  obtain ⟨rfl,rfl,rfl⟩:=H
  go_enter Tryz.func28,Tryz.ntmps28
  go_wp2_with (first|((with_reducible refine aJ (f:=60) rfl ?_);refine aV (some 5) Tryz.func60 #[.pointer (some ⟨g,0,none⟩)] ?_;(with_reducible refine (lG k g s0_0 s0_1 s0_2 t101 t104 t105 w0 _ ?side1 ?side2 A2.out).mono ?_);(case side1=>exact cQ HI0);(case side2=>exact gP HB (bD HI0.out));rintro e w8 ⟨v102,rfl,ho0,hi,hb,hk⟩;refine ⟨_,rfl,?_⟩;have HO103:=aE (Kd.R_lower ho0 (cR (w:=w) (g:=g) (row:=none) (iZ HK)));replace HK:=aE (cM.trans (iZ HK) hk (.inl rfl));replace HB:=aE (hb);replace HI0:=aE (hi);(try clear hb);(try clear hk);(try clear hi);(try clear ho0))|((with_reducible refine aJ (f:=61) rfl ?_);refine aV (some 7) Tryz.func61 #[.pointer (some ⟨g,0,none⟩),.int .i64 14] ?_;(with_reducible refine (dN g s0_0 t104 t105 14 t106 t107 t108 w0 _ ?side1 ?side2 A3.out).mono ?_);(case side1=>exact cQ HI0);(case side2=>exact gP HB (bD HI0.out));rintro e w9 ⟨rfl,hi,hb,hk⟩;refine ⟨_,rfl,?_⟩;replace HO103:=aE (Kd.R_mono (Kd.R_keep (dR.apart (show dR w0 _ g s0_0 t104 t105 from cQ HI0) (bN HO103) (by decide)) hk (fun _ h=>h.2)) (fun _ h=>h.1));replace HK:=aE (cM.trans (iZ HK) hk (.inl rfl));replace HB:=aE (hb);replace HI0:=aE (hi);(try clear hb);(try clear hk);(try clear hi))|((with_reducible refine aN (N:=12) rfl ?_);refine Kd.R_lit (Kd.int .i64) _ 3 ?hg (N:=12) ?hd (xs:=([50,51,(-51)]:List Int)) (inner:=[.int .i64 50,.int .i64 51,.int .i64 (-51)]) (ok:=fun _=>True) (okp:=fun _=>True) ?hr ?hp (fun _ hk=>hk) trivial (Below.refl _ _) (Nat.le_refl _) (by simp) ?_;(case hd=>rfl);(case hg=>rfl);(case hr=>first|(go_simp;done)|(go_simp;rfl));(case hp=>exact (dG (show Kd.M (Kd.int .i64) _ _ _ 50 [.int .i64 50] from rfl) (dG (show Kd.M (Kd.int .i64) _ _ _ 51 [.int .i64 51] from rfl) (dG (show Kd.M (Kd.int .i64) _ _ _ (-51) [.int .i64 (-51)] from rfl) (kC.none _ _)))));intro v110 w10 ho11 hb hg_ hnew_;clear hg_ hnew_;(first|rw [← Ny109.out] at ho11|(simp only [Int.reduceToNat] at ho11;rw [← Ny109.out] at ho11));replace HO103:=aE (Kd.R_below (bN HO103) hb);have HO111:=aE (Kd.R_lower ho11 (cR (w:=w) (g:=g) (row:=none) (iZ HK)));replace HK:=aE (cM.trans (iZ HK) (bZ hb g none) (.inl rfl));replace HB:=aE (aD (gP HB (bD HI0.out)) hb);replace HI0:=aE (dR.below (cQ HI0) hb);clear hb ho11;obtain ⟨Ao12,co12,eo12⟩:=Kd.R_slice HO111.out;subst eo12)|((with_reducible refine aJ (f:=62) rfl ?_);refine aV (some 13) Tryz.func62 #[.pointer (some ⟨g,0,none⟩),.slice Ao12 y109.length co12] ?_;(with_reducible refine (nT g s0_0 t107 t108 _ _ y109 t112 t113 t114 w0 _ ?side1 ?side2 ?side3 ?side4 ?side5 A5.out).mono ?_);(case side1=>exact cQ HI0);(case side2=>exact gP HB (bD HI0.out));(case side3=>exact kJ (Kd.R_reads' HO111.out).2.2);(case side4=>exact (Kd.R_reads' HO111.out).2.1);(case side5=>exact FL (mP HI0.out HO111.out (by decide)));rintro e w13 ⟨rfl,hi,hb,hk⟩;refine ⟨_,rfl,?_⟩;replace HO103:=aE (Kd.R_mono (Kd.R_keep (dR.apart (show dR w0 _ g s0_0 t107 t108 from cQ HI0) (bN HO103) (by decide)) hk (fun _ h=>h.2)) (fun _ h=>h.1));replace HO111:=aE (Kd.R_mono (Kd.R_keep (dR.apart (show dR w0 _ g s0_0 t107 t108 from cQ HI0) (bN HO111) (by decide)) hk (fun _ h=>h.2)) (fun _ h=>h.1));replace HK:=aE (cM.trans (iZ HK) hk (.inl rfl));replace HB:=aE (hb);replace HI0:=aE (hi);(try clear hb);(try clear hk);(try clear hi);have p7:0≤(0:Int):=(by omega);have q7:(0:Int)<((t101.length:Int):Int):=bI;have qi7:(0<t101.length)=True:=eq_true (by omega);obtain ⟨go7,co7,eo7,gb7,gl7,cl7,HG7⟩:=Kd.R_form HO103.out (by omega);(first|cases eo7|(injection eo7 with ea_ en_ ec_;(first|subst ea_|(injection ea_ with ea_;subst ea_));subst ec_;clear en_));have GB7:=aE gb7;have GG7:=aE HG7;clear gb7 gl7 HG7;obtain ⟨ce7,hcl7,hM7,hcc7,hfr7⟩:=Kd.R_elem HO103.out z28 (0:Int) p7 q7;obtain rfl:=FP hM7;have hx7_0:w13.cell? ⟨go7,(0:Int).toNat*2,none⟩=some (.int .i64 ((aC t101 0).f0)):=hcc7 0 _ rfl;have hx7_1:w13.cell? ⟨go7,(0:Int).toNat*2+1,none⟩=some (.int .i64 ((aC t101 0).f1)):=hcc7 1 _ rfl;have hf7_0:w13.frozen? ⟨go7,(0:Int).toNat*2,none⟩=false:=hfr7 0;have hf7_1:w13.frozen? ⟨go7,(0:Int).toNat*2+1,none⟩=false:=hfr7 1;clear hcl7 hcc7 hfr7 hM7;(try rw [show ((0:Int)).toNat=0 from rfl] at hx7_0);(try simp only [Nat.reduceMul,Nat.zero_mul,Nat.zero_add,Nat.reduceAdd] at hx7_0);(try rw [show ((0:Int)).toNat=0 from rfl] at hf7_0);(try simp only [Nat.reduceMul,Nat.zero_mul,Nat.zero_add,Nat.reduceAdd] at hf7_0);(try rw [show ((0:Int)).toNat=0 from rfl] at hx7_1);(try simp only [Nat.reduceMul,Nat.zero_mul,Nat.zero_add,Nat.reduceAdd] at hx7_1);(try rw [show ((0:Int)).toNat=0 from rfl] at hf7_1);(try simp only [Nat.reduceMul,Nat.zero_mul,Nat.zero_add,Nat.reduceAdd] at hf7_1);replace p7:=eq_true p7;replace q7:=eq_true q7;have HX14:=aE (show Kd.R jW 28 w13 w.heap.size (fun _=>True) (.slice (some ⟨go7,0,none⟩) t101.length co7) t101 from (bN HO103));obtain ⟨ce14,hcl14,hM14,hcc14,hfr14⟩:=Kd.R_elem HX14.out z28 (0:Int) (by omega) (by have h_:(0:Int)<((t101.length:Int):Int):=bI;first|exact h_|(have e_:=(Kd.R_reads' HO103.out).1;omega)|simpa using h_);obtain rfl:=FP hM14;have HP14:=Kd.R_seg HX14.out (0:Int) (by omega) (by have h_:(0:Int)<((t101.length:Int):Int):=bI;first|exact h_|(have e_:=(Kd.R_reads' HO103.out).1;omega)|simpa using h_) (seg:=[.int .i64 t112]) (j:=0) hcl14 hcc14 (show 1≤2 from by decide) (x':=(⟨t112,(aC t101 0).f1⟩:cF)) (jO _ _ _ (⟨t112,(aC t101 0).f1⟩:cF) ) (fun _ hk=>hk);have hx14_0:=hcc14 0 _ rfl;(try simp only [show (jW).sz=2 from rfl,Nat.mul_one,Nat.add_zero] at hx14_0);(try rw [show ((0:Int)).toNat=0 from rfl] at hx14_0);(try simp only [Nat.reduceMul,Nat.zero_mul,Nat.zero_add,Nat.reduceAdd] at hx14_0);have hf14_0:=hfr14 0;(try simp only [show (jW).sz=2 from rfl,Nat.mul_one,Nat.add_zero] at hf14_0);(try rw [show ((0:Int)).toNat=0 from rfl] at hf14_0);(try simp only [Nat.reduceMul,Nat.zero_mul,Nat.zero_add,Nat.reduceAdd] at hf14_0);clear hcl14 hcc14 hfr14 hM14)|((with_reducible refine LY (t:=3) (p:=15) rfl ?_);refine JM (t:=3) (p:=15) (v:=?vo_w15) (w1:=(w13.setCell ⟨go7,0,none⟩ (.int .i64 t112))) ?hg ?ho ?hn ?hr ?_;(case ho=>rfl);(case hg=>rfl);(case hn=>rfl);(case hr=>first|(go_simp;done)|(go_simp;rfl));intro w15 hw;have hg:w13.grownBy w15 (some go7):=(by rw [hw];exact HP14.2);have hp_:Kd.R jW 28 w15 w.heap.size (fun _=>True) (.slice (some ⟨go7,0,none⟩) t101.length co7) y115:=(by rw [hw,Ny115.out];exact HP14.1);clear HP14;replace HI0:=aE (dR.grown (cQ HI0) hg (mP HI0.out HO103.out (by decide)));replace HO111:=aE (Kd.R_over' (v:=(.slice (some ⟨go7,0,none⟩) t101.length co7)) (bN HO111) (Kd.R_typed HO103.out) (by decide) hg);replace HB:=aE ((by rw [hw];exact cE (HB.out) (Nat.le_trans HL.out GB7.out):Below w0.heap.size w0 w15));replace HK:=aE (cM.trans (iZ HK) (kM hg g) (Kd.R_base2 HO103.out));replace HO103:=aE (hp_);clear hg hw hp_))
  go_ret
  exact ⟨_,bP,bN HO103,cQ HI0,gP HB (bD HI0.out),iZ HK⟩
 ·have c4b0:(t106==0)=false:=beq_eq_false_iff_ne.mpr c4
  have c4b1:(t106 != 0)=true:=bne_iff_ne.mpr c4
  rcases jE H with ⟨c16,H⟩|⟨c16,H⟩
  ·have c16b0:(t106==1)=true:=beq_iff_eq.mpr c16
   have c16b1:(t106 != 1)=false:=bne_eq_false_iff_eq.mpr c16
   clear c16
   obtain ⟨c17,H⟩:=gQ H
   have c17b0:=decide_eq_true c17
   have c17b1:decide (0<t101.length)=true:=decide_eq_true (by omega)
   clear c17
   obtain ⟨c18,H⟩:=gQ H
   have LMc18:=aE c18
   clear c18
   obtain ⟨y117,hy117⟩:∃ y_:List (cF),y_=(t101++[(⟨(aC t101 0).f0,(aC t101 0).f1⟩:cF)]):=⟨_,rfl⟩
   first|(with_reducible replace H:=oO hy117 H)|(with_reducible replace H:=oP hy117 H)|rw [← hy117] at H
   have Ny117:=aE hy117
   clear hy117
   simp only [Option.some.injEq,Prod.mk.injEq] at H
   obtain ⟨rfl,rfl,rfl⟩:=H
   go_enter Tryz.func28,Tryz.ntmps28
   go_wp2_with (first|((with_reducible refine aJ (f:=60) rfl ?_);refine aV (some 5) Tryz.func60 #[.pointer (some ⟨g,0,none⟩)] ?_;(with_reducible refine (lG k g s0_0 s0_1 s0_2 t101 t104 t105 w0 _ ?side1 ?side2 A2.out).mono ?_);(case side1=>exact cQ HI0);(case side2=>exact gP HB (bD HI0.out));rintro e w19 ⟨v102,rfl,ho0,hi,hb,hk⟩;refine ⟨_,rfl,?_⟩;have HO103:=aE (Kd.R_lower ho0 (cR (w:=w) (g:=g) (row:=none) (iZ HK)));replace HK:=aE (cM.trans (iZ HK) hk (.inl rfl));replace HB:=aE (hb);replace HI0:=aE (hi);(try clear hb);(try clear hk);(try clear hi);(try clear ho0))|((with_reducible refine aJ (f:=61) rfl ?_);refine aV (some 7) Tryz.func61 #[.pointer (some ⟨g,0,none⟩),.int .i64 14] ?_;(with_reducible refine (dN g s0_0 t104 t105 14 t106 t107 t108 w0 _ ?side1 ?side2 A3.out).mono ?_);(case side1=>exact cQ HI0);(case side2=>exact gP HB (bD HI0.out));rintro e w20 ⟨rfl,hi,hb,hk⟩;refine ⟨_,rfl,?_⟩;replace HO103:=aE (Kd.R_mono (Kd.R_keep (dR.apart (show dR w0 _ g s0_0 t104 t105 from cQ HI0) (bN HO103) (by decide)) hk (fun _ h=>h.2)) (fun _ h=>h.1));replace HK:=aE (cM.trans (iZ HK) hk (.inl rfl));replace HB:=aE (hb);replace HI0:=aE (hi);(try clear hb);(try clear hk);(try clear hi);obtain ⟨Ao21,co21,eo21⟩:=Kd.R_slice HO103.out;subst eo21;have p116:0≤(0:Int):=(by omega);have q116:0<(t101.length:Int):=bI;obtain ⟨ad116,e116,hx116_0,hx116_1⟩:=bW (Kd.R_reads' HO103.out).2.2 0 p116 q116;cases e116;have qi116:(0<t101.length)=True:=eq_true (by omega);(try rw [show ((0:Int)).toNat=0 from rfl] at hx116_0);(try rw [show 0*2=0 from rfl] at hx116_0);(try rw [Addr.add_zero'] at hx116_0);(try rw [show ((0:Int)).toNat=0 from rfl] at hx116_1);(try rw [show 0*2=0 from rfl] at hx116_1);(try rw [Addr.add_zero'] at hx116_1);replace p116:=eq_true p116;replace q116:=eq_true q116)|((with_reducible refine cT (b:=.append) (xs:=#[.tmp 18,.tmp 22]) rfl ?_);at_builtin;refine Kd.R_append jW w.heap.size rfl (.tmp 18) (.tmp 22) 24 28 (.agg #[(.int .i64 0),(.int .i64 0)]) 16 rfl Tryz.underlying24 IA rfl (by decide) (by omega) (.slice (some ad116) t101.length co21) t101 (⟨(aC t101 0).f0,(aC t101 0).f1⟩:cF) [.int .i64 ((aC t101 0).f0),.int .i64 ((aC t101 0).f1)] (fun _=>True) (fun _=>False) rfl rfl ?aP (fun _ hk=>hk.elim) ?aF ?aO (Below.refl _ _) ?aS ?aL ?_;(case aP=>exact jO _ _ _ (⟨(aC t101 0).f0,(aC t101 0).f1⟩:cF));(case aF=>exact (fun _ _=>trivial));(case aO=>exact (bN HO103));(case aS=>exact (cR (w:=w) (g:=g) (row:=none) (iZ HK)));(case aL=>have:=LMc18.out;omega);intro v118 w22 ho hb hg hat;rw [← Ny117.out] at ho;replace HB:=aE (sX (gP HB (bD HI0.out)) HL.out hb);replace HI0:=aE (dR.grown (cQ HI0) hg (mP HI0.out HO103.out (by decide)));replace HK:=aE (cM.trans (iZ HK) (kM hg g) (Kd.R_base2 HO103.out));have HO119:=aE (ho);clear HO103;clear ho hb hg hat))
   go_ret
   exact ⟨_,bP,bN HO119,cQ HI0,gP HB (bD HI0.out),iZ HK⟩
  ·have c16b0:(t106==1)=false:=beq_eq_false_iff_ne.mpr c16
   have c16b1:(t106 != 1)=true:=bne_iff_ne.mpr c16
   simp only [Option.some.injEq,Prod.mk.injEq] at H
   obtain ⟨rfl,rfl,rfl⟩:=H
   go_enter Tryz.func28,Tryz.ntmps28
   go_wp2_with (first|((with_reducible refine aJ (f:=60) rfl ?_);refine aV (some 5) Tryz.func60 #[.pointer (some ⟨g,0,none⟩)] ?_;(with_reducible refine (lG k g s0_0 s0_1 s0_2 t101 t104 t105 w0 _ ?side1 ?side2 A2.out).mono ?_);(case side1=>exact cQ HI0);(case side2=>exact gP HB (bD HI0.out));rintro e w23 ⟨v102,rfl,ho0,hi,hb,hk⟩;refine ⟨_,rfl,?_⟩;have HO103:=aE (Kd.R_lower ho0 (cR (w:=w) (g:=g) (row:=none) (iZ HK)));replace HK:=aE (cM.trans (iZ HK) hk (.inl rfl));replace HB:=aE (hb);replace HI0:=aE (hi);(try clear hb);(try clear hk);(try clear hi);(try clear ho0))|((with_reducible refine aJ (f:=61) rfl ?_);refine aV (some 7) Tryz.func61 #[.pointer (some ⟨g,0,none⟩),.int .i64 14] ?_;(with_reducible refine (dN g s0_0 t104 t105 14 t106 t107 t108 w0 _ ?side1 ?side2 A3.out).mono ?_);(case side1=>exact cQ HI0);(case side2=>exact gP HB (bD HI0.out));rintro e w24 ⟨rfl,hi,hb,hk⟩;refine ⟨_,rfl,?_⟩;replace HO103:=aE (Kd.R_mono (Kd.R_keep (dR.apart (show dR w0 _ g s0_0 t104 t105 from cQ HI0) (bN HO103) (by decide)) hk (fun _ h=>h.2)) (fun _ h=>h.1));replace HK:=aE (cM.trans (iZ HK) hk (.inl rfl));replace HB:=aE (hb);replace HI0:=aE (hi);(try clear hb);(try clear hk);(try clear hi)))
   go_ret
   exact ⟨_,bP,bN HO103,cQ HI0,gP HB (bD HI0.out),iZ HK⟩
/-! ### spec_l1New: function 29 -/
def jF:Nat→List Int→Int→Int→Option (List Int×Int×Int)
 | 0,_,_,_=>none
 | k+1,x0,x3,x4=>if x4<(x0.length:Int) then (if x4<4000 then (if 0≤x4 then (jF k x0 (Go.bits .and .i64 (wrap64 ((wrap64 ((wrap64 (x3*131))+(wrap64 (rd x0 x4))))+7)) 1073741823) (wrap64 (x4+1))) else (none)) else (some (x0,0,x3))) else (some (x0,0,x3))
def spec_l1New.f (k:Nat) (l0:List Int):Option (List Int×Int×Int):=jF k l0 (wrap64 (26583+(l0.length:Int))) 0
set_option maxHeartbeats 8000000 in
set_option maxRecDepth 100000 in
theorem kO (k:Nat) (A0:Option Addr) (c0:Nat) (l0:List Int) (r1:List Int) (r2:Int) (r3:Int) (w0 w:World) (hB:Below w0.heap.size w0 w) (hr0:Kd.C (Kd.int .u8) w0 A0 l0.length l0) (hc0:l0.length≤c0) (h:spec_l1New.f k l0=some (r1,r2,r3)) :
  Calls Tryz.prog 29 #[.slice A0 l0.length c0] w fun e w'=>∃ g_:Nat,e=.returned (.pointer (some ⟨g_,0,none⟩))∧dR w0 w' g_ r1 r2 r3∧Below w0.heap.size w0 w'∧Below w.heap.size w w':=by
 have hu79:=Tryz.underlying79
 have HR0:=aE hr0
 have HC0:=aE hc0
 clear hr0 hc0
 have HBW:=aE (Below.refl w.heap.size w)
 have HW0:=aE hB.size
 have HB:=aE hB
 clear hB
 unfold spec_l1New.f at h
 have H:=h
 clear h
 have H':=aE H
 clear H
 go_enter Tryz.func29,Tryz.ntmps29
 go_wp2
 go_loopg [3,4] k (fun kq v3 v4 w'=>∃ (x3_1:Int) (x4_1:Int),v3=.int .i64 x3_1∧v4=.int .i64 x4_1∧Aside0 (jF kq l0 x3_1 x4_1=some (r1,r2,r3))∧Aside0 (kq≤k)∧Aside0 (Below w0.heap.size w0 w')∧Aside0 (Below w.heap.size w w'))
 case atStart=>exact ⟨(wrap64 (26583+(l0.length:Int))),(0),aH,aH,H',⟨Nat.le_refl _⟩,⟨aX HB⟩,⟨aX HBW⟩⟩
 case round =>
  clear H'
  clear HBW
  obtain ⟨x3_1,x4_1,rfl,rfl,HA,HK1,HB,HBW⟩:=hrel
  cases gk with
  | zero=>exact absurd HA.out (by simp [jF])
  | succ k1 =>
   have H:=HA.out
   clear HA
   simp only [jF] at H
   rcases eV H with ⟨c2b0,H⟩|⟨c2b0,H⟩
   ·rcases eV H with ⟨c3b0,H⟩|⟨c3b0,H⟩
    ·obtain ⟨c4b0,H⟩:=cV H
     have H':=aE H
     clear H
     have p101:0≤(x4_1:Int):=bI
     have q101:x4_1<(l0.length:Int):=bI
     obtain ⟨ad101,e101,hx101_0⟩:=Kd.at_int HR0.out x4_1 p101 q101
     cases e101
     replace hx101_0:=lH HB.out hx101_0
     replace p101:=eq_true p101
     replace q101:=eq_true q101
     go_wp2
     go_roundg k1
     case measure=>have:=HK1.out;omega
     case rel=>exact ⟨(Go.bits .and .i64 (wrap64 ((wrap64 ((wrap64 (x3_1*131))+(wrap64 (rd l0 x4_1))))+7)) 1073741823),(wrap64 (x4_1+1)),aH,aH,H',⟨by have:=HK1.out;omega⟩,⟨aX HB⟩,⟨aX HBW⟩⟩
    ·simp only [Option.some.injEq,Prod.mk.injEq] at H
     obtain ⟨rfl,rfl,rfl⟩:=H
     go_wp2_with (first|((with_reducible refine aN (N:=31) rfl ?_);refine bV (N:=31) #[.slice A0 l0.length c0,.int .i64 0,.int .i64 x3_1] 79 ?_;intro gb102 hg w5 hbox hb;replace HB:=aE (aD (aX HB) hb);have BK102:=aE (hbox);have GW102:=aE ((dX HBW hg));have GE102:=aE ((Nat.le_trans HW0.out (dX HBW hg):w0.heap.size≤gb102));replace HBW:=aE (aD HBW.out hb);clear hb hbox hg))
     go_ret
     exact ⟨_,rfl,(show dR w0 _ gb102 l0 0 x3_1 from ⟨_,_,fO BK102,GE102.out,HR0.out⟩),aX HB,gP HBW GW102.out⟩
   ·simp only [Option.some.injEq,Prod.mk.injEq] at H
    obtain ⟨rfl,rfl,rfl⟩:=H
    go_wp2_with (first|((with_reducible refine aN (N:=31) rfl ?_);refine bV (N:=31) #[.slice A0 l0.length c0,.int .i64 0,.int .i64 x3_1] 79 ?_;intro gb103 hg w6 hbox hb;replace HB:=aE (aD (aX HB) hb);have BK103:=aE (hbox);have GW103:=aE ((dX HBW hg));have GE103:=aE ((Nat.le_trans HW0.out (dX HBW hg):w0.heap.size≤gb103));replace HBW:=aE (aD HBW.out hb);clear hb hbox hg))
    go_ret
    exact ⟨_,rfl,(show dR w0 _ gb103 l0 0 x3_1 from ⟨_,_,fO BK103,GE103.out,HR0.out⟩),aX HB,gP HBW GW103.out⟩
/-! ### spec_DrawInnerPoints: function 5 -/
def spec_DrawInnerPoints.f (k:Nat) (l0:List Int):Option ((List (cF))):=(spec_l1New.f k l0).bind fun bt101=>((spec_l2Bent.f k bt101.1 bt101.2.1 bt101.2.2).bind fun bt105=>(some bt105.1))
set_option maxHeartbeats 8000000 in
set_option maxRecDepth 100000 in
theorem pH (k:Nat) (A0:Option Addr) (c0:Nat) (l0:List Int) (r:List (cF)) (w:World) (hr0:Kd.C (Kd.int .u8) w A0 l0.length l0) (hc0:l0.length≤c0) (h:spec_DrawInnerPoints.f k l0=some r) :
  Calls Tryz.prog 5 #[.slice A0 l0.length c0] w fun e w'=>∃ v0_:Value,e=.returned (v0_)∧Kd.R jW 28 w' w.heap.size (fun _=>True) v0_ r∧Below w.heap.size w w':=by
 have HR0:=aE hr0
 have HC0:=aE hc0
 clear hr0 hc0
 have HB:=aE (Below.refl w.heap.size w)
 unfold spec_DrawInnerPoints.f at h
 have H:=h
 clear h
 replace H:=eM H
 obtain ⟨⟨t101,t102,t103⟩,A2,H⟩:=H
 try dsimp only at H
 replace H:=eM H
 obtain ⟨⟨t105,t108,t109⟩,A3,H⟩:=H
 try dsimp only at H
 obtain rfl:=Option.some.inj H
 go_enter Tryz.func5,Tryz.ntmps5
 go_wp2_with (first|((with_reducible refine aJ (f:=29) rfl ?_);refine aV (some 4) Tryz.func29 #[.slice A0 l0.length c0] ?_;(with_reducible refine (kO k _ _ l0 t101 t102 t103 w _ ?side1 ?side2 ?side3 A2.out).mono ?_);(case side1=>exact aX HB);(case side2=>exact HR0.out);(case side3=>exact HC0.out);rintro e w4 ⟨g104,rfl,hi,hb,hb2⟩;refine ⟨_,rfl,?_⟩;replace HB:=aE (hb);have HI104:=aE (hi);(try clear hb);(try clear hb2);(try clear hk);(try clear hi))|((with_reducible refine aJ (f:=28) rfl ?_);refine aV (some 5) Tryz.func28 #[.pointer (some ⟨g104,0,none⟩)] ?_;(with_reducible refine (qZ k g104 t101 t102 t103 t105 t108 t109 w _ ?side1 ?side2 A3.out).mono ?_);(case side1=>exact cQ HI104);(case side2=>exact gP HB (bD HI104.out));rintro e w5 ⟨v106,rfl,ho0,hi,hb,hk⟩;refine ⟨_,rfl,?_⟩;have HO107:=aE (Kd.R_lower ho0 (aT (gP HB (bD HI104.out))));replace HB:=aE (hb);replace HI104:=aE (hi);(try clear hb);(try clear hb2);(try clear hk);(try clear hi);(try clear ho0)))
 go_ret
 exact ⟨_,bP,bN HO107,gP HB (bD HI104.out)⟩
/-! ### impl_Point_98: function 98 -/
def FU (g:Nat) (lb:Array Value) (p:cF→Bool) (w:World):Prop :=
 ∀ (W:World) (x:cF),Below w.heap.size w W→Calls Tryz.prog g (#[.agg #[.int .i64 x.f0,.int .i64 x.f1]]++lb) W fun e w'=>e=.returned (.bool (p x))∧Below W.heap.size W w'
def nU (p:cF→Bool):List cF→Nat→Int
 | [],_=>-1
 | x::l,i=>if p x then i else nU p l (i+1)
theorem xG (p:cF→Bool) (l:List cF) (k i:Nat) (h:∀ j,j<k→j<l.length→p (l.getD j z28)=false) (hk:k≤l.length):nU p l i=nU p (l.drop k) (i+k):=by
 induction k generalizing l i with
 | zero=>simp
 | succ k ih =>
  cases l with
  | nil=>simp at hk
  | cons x l =>
   have hx:p x=false:=by simpa using h 0 (by omega) (by simp)
   simp only [nU,hx,List.drop_succ_cons]
   rw [if_neg (by decide),ih l (i+1) (fun j hj hl=>by simpa using h (j+1) (by omega) (by simpa using hl)) (by simpa using hk)]
   simp [Nat.add_assoc,Nat.add_comm 1 k]
theorem IC (p:cF→Bool) (l:List cF) (i:Nat):decide (0≤nU p l i)=l.any p:=by
 induction l generalizing i with
 | nil=>rfl
 | cons x l ih =>
  simp only [nU,List.any_cons]
  by_cases h:p x=true
  ·simp [h]
  ·simp [h,ih]
set_option maxHeartbeats 1000000 in
set_option maxRecDepth 100000 in
theorem AQ (g:Nat) (lb:Array Value) (eg:∀ args w,(callFunc g args).run Tryz.prog w=.ok (.enter g args) w) (p:cF→Bool) (A:Option Addr) (c:Nat) (l:List cF) (w:World) (hr:Kd.C jW w A l.length l) (hc:l.length≤c) (hp:FU g lb p w) :
  Calls Tryz.prog 98 #[.slice A l.length c,.func (.func g) #[] lb] w fun e w'=>e=.returned (.int .i64 (nU p l 0))∧Below w.heap.size w w':=by
 have hu28:=Tryz.underlying28
 have hmax:l.length≤9223372036854775807:=hr.2.1
 have HR:=aE hr
 have HP:=aE hp
 clear hr hp
 go_enter Tryz.func98,Tryz.ntmps98
 go_wp2_with fail
 go_loopg [5,8] l.length (fun gg _ s8 wr=>∃ kk:Nat,kk≤l.length∧l.length-kk≤gg∧s8=.int .i64 kk∧Aside0 (Below w.heap.size w wr)∧Aside0 (∀ j,j<kk→j<l.length→p (l.getD j z28)=false))
 case atStart=>exact ⟨0,Nat.zero_le _,by omega,rfl,⟨Below.refl _ w⟩,⟨fun j hj=>absurd hj (Nat.not_lt_zero _)⟩⟩
 case round =>
  obtain ⟨kk,hkk,hg,rfl,BW,AA⟩:=hrel
  by_cases hlt:kk<l.length
  ·have hltz:(kk:Int)<(l.length:Int):=by omega
   obtain ⟨ad,rfl,hx0,hx1⟩:=bW (Kd.C_below HR.out BW.out) (kk:Int) (by omega) hltz
   simp only [Int.toNat_natCast] at hx0 hx1
   have hcall:=HP.out wr (aC l (kk:Int)) BW.out
   have hrdk:aC l (kk:Int)=l.getD kk z28:=rfl
   generalize hy:aC l (kk:Int)=y at hx0 hx1 hcall hrdk
   have HY:=aE hrdk
   clear hrdk hy
   cases hq:p y with
   | true =>
    rw [hq] at hcall
    have HQ:=aE hq
    clear hq
    go_wp2_with (go_at_fn g;refine hcall.mono ?_;rintro e w' ⟨rfl,hb'⟩)
    go_ret
    refine ⟨?_,aD BW.out hb'⟩
    rw [xG p l kk 0 AA.out hkk,List.drop_eq_getElem_cons hlt]
    have hyy:l[kk]=y:=by rw [HY.out];simp [List.getD,List.getElem?_eq_getElem hlt]
    simp only [nU,hyy,HQ.out]
    simp
   | false =>
    rw [hq] at hcall
    have HQ:=aE hq
    clear hq
    go_wp2_with (go_at_fn g;refine hcall.mono ?_;rintro e w' ⟨rfl,hb'⟩)
    go_roundg (l.length-(kk+1))
    case measure=>omega
    case rel =>
     refine ⟨kk+1,by omega,by omega,by go_num,⟨aD BW.out hb'⟩,⟨fun j hj hjl=>?_⟩⟩
     by_cases e:j=kk
     ·subst e
      rw [← HY.out];exact HQ.out
     ·exact AA.out j (by omega) hjl
  ·have hltz:¬ (kk:Int)<(l.length:Int):=by omega
   have hkl:kk=l.length:=by omega
   subst hkl
   go_wp2_with fail
   go_ret
   refine ⟨?_,BW.out⟩
   rw [xG p l l.length 0 AA.out (Nat.le_refl _),List.drop_length]
   rfl
/-! ### impl_Point_71: function 71 -/
theorem wL (g:Nat) (lb:Array Value) (eg:∀ args w,(callFunc g args).run Tryz.prog w=.ok (.enter g args) w) (p:cF→Bool) (A:Option Addr) (c:Nat) (l:List cF) (w:World) (hr:Kd.C jW w A l.length l) (hc:l.length≤c) (hp:FU g lb p w) :
  Calls Tryz.prog 71 #[.slice A l.length c,.func (.func g) #[] lb] w fun e w'=>e=.returned (.bool (l.any p))∧Below w.heap.size w w':=by
 have HR:=aE hr
 have HP:=aE hp
 have HA:=aE (IC p l 0)
 clear hr hp
 go_enter Tryz.func71,Tryz.ntmps71
 go_wp2_with fail
 (with_reducible refine (AQ g lb eg p A c l _ HR.out hc HP.out).mono ?_);rintro e w1 ⟨rfl,hb⟩
 go_wp2_with fail
 go_ret
 exact ⟨by rw [← HA.out];rfl,hb⟩
/-! ### impl_isFar: function 73 -/
def impl_isFar.f (a0:Int) (a1:Int):Option (Bool):=if a0<(wrap64 (-a1)) then (some true) else (some (decide (a0 > a1)))
set_option maxHeartbeats 8000000 in
set_option maxRecDepth 100000 in
theorem nK (a0:Int) (a1:Int) (r:Bool) (w:World) (h:impl_isFar.f a0 a1=some r) :
  Calls Tryz.prog 73 #[.int .i64 a0,.int .i64 a1] w fun e w'=>e=.returned (.bool r)∧gH w w':=by
 unfold impl_isFar.f at h
 have H:=h
 clear h
 rcases eV H with ⟨c3b0,H⟩|⟨c3b0,H⟩
 ·obtain rfl:=Option.some.inj H
  go_enter Tryz.func73,Tryz.ntmps73
  go_wp2
  go_ret
  exact ⟨aH,by repeat (first|exact gH.refl _|apply bF)⟩
 ·obtain rfl:=Option.some.inj H
  go_enter Tryz.func73,Tryz.ntmps73
  go_wp2
  go_ret
  exact ⟨aH,by repeat (first|exact gH.refl _|apply bF)⟩
def DU (n most:Int):Bool:=(impl_isFar.f n most).getD false
theorem MC (n most:Int):impl_isFar.f n most=some (DU n most):=by
 unfold DU impl_isFar.f;split <;> rfl
theorem DV (n most:Int) {b:Bool} (h:DU n most=b):impl_isFar.f n most=some b:=by rw [MC,h]
/-! ### impl_areNear_1: function 72 -/
set_option maxHeartbeats 400000 in
theorem JT (x y most:Int) (B:Nat) (w:World) (hB:B<w.heap.size) (hc:w.cell? ⟨B,0,none⟩=some (.int .i64 most)) :
  Calls Tryz.prog 72 #[.agg #[.int .i64 x,.int .i64 y],.pointer (some ⟨B,0,none⟩)] w fun e w'=>e=.returned (.bool (DU x most||DU y most))∧Below w.heap.size w w':=by
 have hu28:=Tryz.underlying28
 cases h0:DU x most with
 | true =>
  have H0:=aE h0
  clear h0
  go_enter Tryz.func72,Tryz.ntmps72
  go_wp2_with fail
  (with_reducible refine (nK x most true _ (DV x most H0.out)).mono ?_);rintro e w0 ⟨rfl,⟨n0,rfl⟩⟩
  go_wp2_with fail
  go_ret
  exact ⟨rfl,by repeat (first|exact Below.refl _ _|apply mH|apply oN|apply jK)⟩
 | false =>
  have H0:=aE h0
  clear h0
  cases h1:DU y most <;> have H1:=aE h1 <;> clear h1
  all_goals
   go_enter Tryz.func72,Tryz.ntmps72
   go_wp2_with fail
   (with_reducible refine (nK x most false _ (DV x most H0.out)).mono ?_);rintro e w0 ⟨rfl,⟨n0,rfl⟩⟩
   go_wp2_with fail
   (with_reducible refine (nK y most _ _ (DV y most H1.out)).mono ?_);rintro e w1 ⟨rfl,⟨n1,rfl⟩⟩
   go_wp2_with fail
   go_ret
   exact ⟨rfl,by repeat (first|exact Below.refl _ _|apply mH|apply oN|apply jK)⟩
/-! ### impl_areNear: function 45 -/
def yV (most:Int) (p:cF):Bool:=DU p.f0 most||DU p.f1 most
def impl_areNear.f (a0:Int) (l1:List cF):Option Bool:=some (!l1.any (yV a0))
set_option maxHeartbeats 400000 in
theorem jX (a0:Int) (A1:Option Addr) (c1:Nat) (l1:List cF) (r:Bool) (w:World) (hr1:Kd.C jW w A1 l1.length l1) (hc1:l1.length≤c1) (h:impl_areNear.f a0 l1=some r) :
  Calls Tryz.prog 45 #[.int .i64 a0,.slice A1 l1.length c1] w fun e w'=>e=.returned (.bool r)∧Below w.heap.size w w':=by
 have H:(!l1.any (yV a0))=r:=Option.some.inj h
 have HH:=aE H
 clear H h
 have HR:=aE hr1
 clear hr1
 have eg:∀ (args:Array Value) (w:World),(callFunc 72 args).run Tryz.prog w=.ok (.enter 72 args) w:=enters_of Tryz.func72 (by kernel_rfl) rfl
 go_enter Tryz.func45,Tryz.ntmps45
 go_wp2_with fail
 (with_reducible refine (wL 72 _ eg (yV a0) A1 c1 l1 _ ?side1 hc1 ?side2).mono ?_)
 case side1=>repeat (first|exact HR.out|(with_reducible refine Kd.C_alloc ?_ _)|(with_reducible refine Kd.C_drewN ?_ _)|(with_reducible refine Kd.C_drew ?_))
 case side2 =>
  intro W x hb
  have hlt:w.heap.size<W.heap.size:=by have:=hb.size;simp at this;omega
  exact JT x.f0 x.f1 a0 w.heap.size W hlt ((hb.cell (p:=⟨w.heap.size,0,none⟩) (by simp)).trans (by simp))
 rintro e w1 ⟨rfl,hb⟩
 go_wp2_with fail
 go_ret
 exact ⟨by rw [← HH.out];rfl,aD (by repeat (first|exact Below.refl _ _|apply mH|apply oN|apply jK)) hb⟩
/-! ### impl_divisor: function 46 -/
mutual
def gJ:Nat→Int→List Int→Int→Int→Option (Int)
 | 0,_,_,_,_=>none
 | k+1,x3,x6,x7,x8=>if x8<x7 then (if 0≤x8 then (if x8<(x6.length:Int) then (gK k x3 (rd x6 x8) x6 x7 x8) else (none)) else (none)) else (some (mx x3 (wrap64 (-x3))))
def gK:Nat→Int→Int→List Int→Int→Int→Option (Int)
 | 0,_,_,_,_,_=>none
 | k+1,x3,x5,x6,x7,x8=>if x5=0 then (gJ k x3 x6 x7 (wrap64 (x8+1))) else (gK k x5 (Int.tmod x3 x5) x6 x7 x8)
end
def impl_divisor.f (k:Nat) (l0:List Int):Option (Int):=gJ k 0 l0 (l0.length:Int) 0
set_option maxHeartbeats 8000000 in
set_option maxRecDepth 100000 in
theorem xR (k:Nat) (A0:Option Addr) (c0:Nat) (l0:List Int) (r:Int) (w:World) (hr0:Kd.C (Kd.int .i64) w A0 l0.length l0) (hc0:l0.length≤c0) (h:impl_divisor.f k l0=some r) :
  Calls Tryz.prog 46 #[.slice A0 l0.length c0] w fun e w'=>e=.returned (.int .i64 r)∧Below w.heap.size w w':=by
 have HR0:=aE hr0
 have HC0:=aE hc0
 clear hr0 hc0
 have HB:=aE (Below.refl w.heap.size w)
 unfold impl_divisor.f at h
 have H:=h
 clear h
 have H':=aE H
 clear H
 go_enter Tryz.func46,Tryz.ntmps46
 go_wp2
 repeat (go_quiet (fail);try go_wp2)
 go_loopg [3,8] k (fun kq v3 v8 w'=>∃ (x3_1:Int) (x8_1:Int),v3=.int .i64 x3_1∧v8=.int .i64 x8_1∧Aside0 (gJ kq x3_1 l0 (l0.length:Int) x8_1=some r)∧Aside0 (kq≤k)∧Aside0 (Below w.heap.size w w'))
 case atStart=>exact ⟨(0),(0),aH,aH,H',⟨Nat.le_refl _⟩,⟨aX HB⟩⟩
 case round =>
  clear H'
  obtain ⟨x3_1,x8_1,rfl,rfl,HA,HK1,HB⟩:=hrel
  cases gk with
  | zero=>exact absurd HA.out (by simp [gJ])
  | succ k1 =>
   have H:=HA.out
   clear HA
   simp only [gJ] at H
   rcases eV H with ⟨c2b0,H⟩|⟨c2b0,H⟩
   ·obtain ⟨c3b0,H⟩:=cV H
    obtain ⟨c4b0,H⟩:=cV H
    have H':=aE H
    clear H
    have p101:0≤(x8_1:Int):=bI
    have q101:x8_1<(l0.length:Int):=bI
    obtain ⟨ad101,e101,hx101_0⟩:=Kd.at_int HR0.out x8_1 p101 q101
    cases e101
    replace hx101_0:=aY HB hx101_0
    replace p101:=eq_true p101
    replace q101:=eq_true q101
    go_wp2
    repeat (go_quiet (fail);try go_wp2)
    go_loopg [3,5] k1 (fun kq v3 v5 w'=>∃ (x3_2:Int) (x5_2:Int),v3=.int .i64 x3_2∧v5=.int .i64 x5_2∧Aside0 (gK kq x3_2 x5_2 l0 (l0.length:Int) x8_1=some r)∧Aside0 (kq≤k1)∧Aside0 (Below w.heap.size w w'))
    case atStart=>exact ⟨(x3_1),(rd l0 x8_1),aH,aH,H',⟨Nat.le_refl _⟩,⟨aX HB⟩⟩
    case round =>
     clear H'
     try clear c2b0
     try clear c3b0
     try clear c4b0
     try clear hx101_0
     try clear p101
     try clear q101
     obtain ⟨x3_2,x5_2,rfl,rfl,HA,HK2,HB⟩:=hrel
     cases gk with
     | zero=>exact absurd HA.out (by simp [gK])
     | succ k2 =>
      have H:=HA.out
      clear HA
      simp only [gK] at H
      rcases jE H with ⟨c5,H⟩|⟨c5,H⟩
      ·have c5b0:(x5_2==0)=true:=beq_iff_eq.mpr c5
       have c5b1:(x5_2 != 0)=false:=bne_eq_false_iff_eq.mpr c5
       clear c5
       have H':=aE H
       clear H
       go_wp2
       repeat (go_quiet (fail);try go_wp2)
       go_roundg k2
       case measure=>have:=HK1.out;have:=HK2.out;omega
       case rel=>exact ⟨(x3_2),(wrap64 (x8_1+1)),aH,aH,H',⟨by have:=HK1.out;have:=HK2.out;omega⟩,⟨aX HB⟩⟩
      ·have c5b0:(x5_2==0)=false:=beq_eq_false_iff_ne.mpr c5
       have c5b1:(x5_2 != 0)=true:=bne_iff_ne.mpr c5
       have H':=aE H
       clear H
       go_wp2
       repeat (go_quiet (fail);try go_wp2)
       go_roundg k2
       case measure=>have:=HK1.out;have:=HK2.out;omega
       case rel=>exact ⟨(x5_2),(Int.tmod x3_2 x5_2),aH,aH,H',⟨by have:=HK1.out;have:=HK2.out;omega⟩,⟨aX HB⟩⟩
   ·obtain ⟨ji6,hji6⟩:∃ j_:Int,(mx x3_1 (wrap64 (-x3_1)))=j_:=⟨_,rfl⟩
    replace H:(some ji6)=some r:=by first|(rw [hji6] at H;exact H)|(simp only [hji6] at H ⊢;exact H)
    have hji6_:(if x3_1<(wrap64 (-x3_1)) then (wrap64 (-x3_1)) else x3_1)=ji6:=hji6
    obtain rfl:=Option.some.inj H
    go_wp2
    repeat (go_quiet (fail);try go_wp2)
    go_ret
    exact ⟨by first|rfl|(simp [cG,cI] <;> rfl)|(simp only [← hji6];first|rfl|(simp [cG,cI] <;> rfl))|(simp [*,cG,cI] <;> rfl),aX HB⟩
/-! ### impl_OnEdge: function 14 -/
def impl_OnEdge.f (k:Nat) (a0_0:Int) (a0_1:Int) (a1_0:Int) (a1_1:Int):Option (Int):=(impl_areNear.f 1000 (([(⟨a0_0,a0_1⟩:cF),(⟨a1_0,a1_1⟩:cF)]:List (cF)))).bind fun t106=>(if t106=true then ((impl_divisor.f k (([wrap64 (a1_0-a0_0),wrap64 (a1_1-a0_1)]:List Int))).bind fun t110=>(some t110)) else (some (-1)))
set_option maxHeartbeats 8000000 in
set_option maxRecDepth 100000 in
theorem jL (k:Nat) (a0_0:Int) (a0_1:Int) (a1_0:Int) (a1_1:Int) (r:Int) (w:World) (h:impl_OnEdge.f k a0_0 a0_1 a1_0 a1_1=some r) :
  Calls Tryz.prog 14 #[.agg #[.int .i64 a0_0,.int .i64 a0_1],.agg #[.int .i64 a1_0,.int .i64 a1_1]] w fun e w'=>e=.returned (.int .i64 r)∧Below w.heap.size w w':=by
 have hu28:=Tryz.underlying28
 have HB:=aE (Below.refl w.heap.size w)
 unfold impl_OnEdge.f at h
 have H:=h
 clear h
 obtain ⟨y103,hy103⟩:∃ y_:List (cF),y_=(([(⟨a0_0,a0_1⟩:cF),(⟨a1_0,a1_1⟩:cF)]:List (cF))):=⟨_,rfl⟩
 first|(with_reducible replace H:=oO hy103 H)|(with_reducible replace H:=oP hy103 H)|rw [← hy103] at H
 have Ny103:=aE hy103
 clear hy103
 replace H:=eM H
 obtain ⟨t106,A3,H⟩:=H
 by_cases c4:t106=true
 ·subst c4
  rw [if_pos rfl] at H
  obtain ⟨y107,hy107⟩:∃ y_:List Int,y_=(([wrap64 (a1_0-a0_0),wrap64 (a1_1-a0_1)]:List Int)):=⟨_,rfl⟩
  first|(with_reducible replace H:=oO hy107 H)|(with_reducible replace H:=oP hy107 H)|rw [← hy107] at H
  have Ny107:=aE hy107
  clear hy107
  replace H:=eM H
  obtain ⟨t110,A5,H⟩:=H
  obtain rfl:=Option.some.inj H
  go_enter Tryz.func14,Tryz.ntmps14
  go_wp2_with (first|((with_reducible refine aN (N:=2) rfl ?_);refine bV (N:=2) #[.int .i64 a0_0,.int .i64 a0_1] 28 ?_;intro gb101 hg w6 hbox hb;have BK101:=aE (hbox);have GW101:=aE ((dX HB hg));have GE101:=aE ((dX HB hg));replace HB:=aE (aD (aX HB) hb);clear hb hbox hg)|((with_reducible refine aN (N:=3) rfl ?_);refine bV (N:=3) #[.int .i64 a1_0,.int .i64 a1_1] 28 ?_;intro gb102 hg w7 hbox hb;have BK102:=aE (hbox);have GW102:=aE ((dX HB hg));have GE102:=aE ((dX HB hg));replace HB:=aE (aD (aX HB) hb);have NB101_102:=aE ((iX BK101 hg));have NB102_101:=aE ((iY BK101 hg));replace BK101:=aE (bB BK101 hb);clear hb hbox hg;have hnb8:=NB101_102.out;have hnc8:=NB102_101.out;have hcz9_0:=aW BK101 0;have hcz9_1:=aW BK101 1;have hfz9_0:=aA BK101.out 0;have hfz9_1:=aA BK101.out 1;have hcz10_0:=aW BK102 0;have hcz10_1:=aW BK102 1;have hfz10_0:=aA BK102.out 0;have hfz10_1:=aA BK102.out 1)|((with_reducible refine aN (N:=7) rfl ?_);refine Kd.R_lit jW _ 28 ?hg (N:=7) ?hd (xs:=([(⟨a0_0,a0_1⟩:cF),(⟨a1_0,a1_1⟩:cF)]:List (cF))) (inner:=[.int .i64 a0_0,.int .i64 a0_1,.int .i64 a1_0,.int .i64 a1_1]) (ok:=fun _=>True) (okp:=fun _=>True) ?hr ?hp (fun _ hk=>hk) trivial (Below.refl _ _) (Nat.le_refl _) (by simp) ?_;(case hd=>rfl);(case hg=>rfl);(case hr=>first|(go_simp;done)|(go_simp;rfl));(case hp=>exact (lF (show Kd.M jW _ _ _ (⟨a0_0,a0_1⟩:cF) [.int .i64 a0_0,.int .i64 a0_1] from (jO _ _ _ (⟨a0_0,a0_1⟩:cF) )) (lF (show Kd.M jW _ _ _ (⟨a1_0,a1_1⟩:cF) [.int .i64 a1_0,.int .i64 a1_1] from (jO _ _ _ (⟨a1_0,a1_1⟩:cF) )) (kC.none _ _))));intro v104 w11 ho12 hb hg_ hnew_;clear hg_ hnew_;(first|rw [← Ny103.out] at ho12|(simp only [Int.reduceToNat] at ho12;rw [← Ny103.out] at ho12));have HO105:=aE (Kd.R_lower (Kd.R_newB (Kd.R_newB ho12 (g:=gb101) (o:=.cells #[.int .i64 a0_0,.int .i64 a0_1] 28 (0,0)) (fO BK101)) (g:=gb102) (o:=.cells #[.int .i64 a1_0,.int .i64 a1_1] 28 (0,0)) (fO BK102)) (aT (aX HB)));replace BK101:=aE (bB BK101 hb);replace BK102:=aE (bB BK102 hb);replace HB:=aE (aD (aX HB) hb);clear hb ho12;obtain ⟨Ao13,co13,eo13⟩:=Kd.R_slice HO105.out;subst eo13)|((with_reducible refine aJ (f:=45) rfl ?_);refine aV (some 8) Tryz.func45 #[.int .i64 1000,.slice Ao13 y103.length co13] ?_;(with_reducible refine (jX 1000 _ _ y103 true _ ?side1 ?side2 A3.out).mono ?_);(case side1=>exact kJ (Kd.R_reads' HO105.out).2.2);(case side2=>exact (Kd.R_reads' HO105.out).2.1);rintro e w14 ⟨rfl,hb⟩;refine ⟨_,rfl,?_⟩;replace HO105:=aE (Kd.R_below (bN HO105) hb);replace BK101:=aE (bB BK101 hb);replace BK102:=aE (bB BK102 hb);replace HB:=aE (aD (aX HB) hb);(try clear hb);(try clear hk);have hcz15_0:=aW BK102 0;have hcz15_1:=aW BK102 1;have hfz15_0:=aA BK102.out 0;have hfz15_1:=aA BK102.out 1;have hcz16_0:=aW BK101 0;have hcz16_1:=aW BK101 1;have hfz16_0:=aA BK101.out 0;have hfz16_1:=aA BK101.out 1)|((with_reducible refine aN (N:=20) rfl ?_);refine Kd.R_lit (Kd.int .i64) _ 3 ?hg (N:=20) ?hd (xs:=([wrap64 (a1_0-a0_0),wrap64 (a1_1-a0_1)]:List Int)) (inner:=[.int .i64 (wrap64 (a1_0-a0_0)),.int .i64 (wrap64 (a1_1-a0_1))]) (ok:=fun _=>True) (okp:=fun _=>True) ?hr ?hp (fun _ hk=>hk) trivial (Below.refl _ _) (Nat.le_refl _) (by simp) ?_;(case hd=>rfl);(case hg=>rfl);(case hr=>first|(go_simp;done)|(go_simp;rfl));(case hp=>exact (dG (show Kd.M (Kd.int .i64) _ _ _ (wrap64 (a1_0-a0_0)) [.int .i64 (wrap64 (a1_0-a0_0))] from rfl) (dG (show Kd.M (Kd.int .i64) _ _ _ (wrap64 (a1_1-a0_1)) [.int .i64 (wrap64 (a1_1-a0_1))] from rfl) (kC.none _ _))));intro v108 w17 ho18 hb hg_ hnew_;clear hg_ hnew_;(first|rw [← Ny107.out] at ho18|(simp only [Int.reduceToNat] at ho18;rw [← Ny107.out] at ho18));replace HO105:=aE (Kd.R_below (bN HO105) hb);have HO109:=aE (Kd.R_lower ho18 (aT (aX HB)));replace BK101:=aE (bB BK101 hb);replace BK102:=aE (bB BK102 hb);replace HB:=aE (aD (aX HB) hb);clear hb ho18;obtain ⟨Ao19,co19,eo19⟩:=Kd.R_slice HO109.out;subst eo19)|((with_reducible refine aJ (f:=46) rfl ?_);refine aV (some 21) Tryz.func46 #[.slice Ao19 y107.length co19] ?_;(with_reducible refine (xR k _ _ y107 t110 _ ?side1 ?side2 A5.out).mono ?_);(case side1=>exact kJ (Kd.R_reads' HO109.out).2.2);(case side2=>exact (Kd.R_reads' HO109.out).2.1);rintro e w20 ⟨rfl,hb⟩;refine ⟨_,rfl,?_⟩;replace HO105:=aE (Kd.R_below (bN HO105) hb);replace HO109:=aE (Kd.R_below (bN HO109) hb);replace BK101:=aE (bB BK101 hb);replace BK102:=aE (bB BK102 hb);replace HB:=aE (aD (aX HB) hb);(try clear hb);(try clear hk)))
  go_ret
  exact ⟨bP,aX HB⟩
 ·replace c4:=Bool.eq_false_iff.mpr c4
  subst c4
  rw [if_neg (show ¬ (false=true) by decide)] at H
  obtain rfl:=Option.some.inj H
  go_enter Tryz.func14,Tryz.ntmps14
  go_wp2_with (first|((with_reducible refine aN (N:=2) rfl ?_);refine bV (N:=2) #[.int .i64 a0_0,.int .i64 a0_1] 28 ?_;intro gb101 hg w21 hbox hb;have BK101:=aE (hbox);have GW101:=aE ((dX HB hg));have GE101:=aE ((dX HB hg));replace HB:=aE (aD (aX HB) hb);clear hb hbox hg)|((with_reducible refine aN (N:=3) rfl ?_);refine bV (N:=3) #[.int .i64 a1_0,.int .i64 a1_1] 28 ?_;intro gb102 hg w22 hbox hb;have BK102:=aE (hbox);have GW102:=aE ((dX HB hg));have GE102:=aE ((dX HB hg));replace HB:=aE (aD (aX HB) hb);have NB101_102:=aE ((iX BK101 hg));have NB102_101:=aE ((iY BK101 hg));replace BK101:=aE (bB BK101 hb);clear hb hbox hg;have hnb23:=NB101_102.out;have hnc23:=NB102_101.out;have hcz24_0:=aW BK101 0;have hcz24_1:=aW BK101 1;have hfz24_0:=aA BK101.out 0;have hfz24_1:=aA BK101.out 1;have hcz25_0:=aW BK102 0;have hcz25_1:=aW BK102 1;have hfz25_0:=aA BK102.out 0;have hfz25_1:=aA BK102.out 1)|((with_reducible refine aN (N:=7) rfl ?_);refine Kd.R_lit jW _ 28 ?hg (N:=7) ?hd (xs:=([(⟨a0_0,a0_1⟩:cF),(⟨a1_0,a1_1⟩:cF)]:List (cF))) (inner:=[.int .i64 a0_0,.int .i64 a0_1,.int .i64 a1_0,.int .i64 a1_1]) (ok:=fun _=>True) (okp:=fun _=>True) ?hr ?hp (fun _ hk=>hk) trivial (Below.refl _ _) (Nat.le_refl _) (by simp) ?_;(case hd=>rfl);(case hg=>rfl);(case hr=>first|(go_simp;done)|(go_simp;rfl));(case hp=>exact (lF (show Kd.M jW _ _ _ (⟨a0_0,a0_1⟩:cF) [.int .i64 a0_0,.int .i64 a0_1] from (jO _ _ _ (⟨a0_0,a0_1⟩:cF) )) (lF (show Kd.M jW _ _ _ (⟨a1_0,a1_1⟩:cF) [.int .i64 a1_0,.int .i64 a1_1] from (jO _ _ _ (⟨a1_0,a1_1⟩:cF) )) (kC.none _ _))));intro v104 w26 ho27 hb hg_ hnew_;clear hg_ hnew_;(first|rw [← Ny103.out] at ho27|(simp only [Int.reduceToNat] at ho27;rw [← Ny103.out] at ho27));have HO105:=aE (Kd.R_lower (Kd.R_newB (Kd.R_newB ho27 (g:=gb101) (o:=.cells #[.int .i64 a0_0,.int .i64 a0_1] 28 (0,0)) (fO BK101)) (g:=gb102) (o:=.cells #[.int .i64 a1_0,.int .i64 a1_1] 28 (0,0)) (fO BK102)) (aT (aX HB)));replace BK101:=aE (bB BK101 hb);replace BK102:=aE (bB BK102 hb);replace HB:=aE (aD (aX HB) hb);clear hb ho27;obtain ⟨Ao28,co28,eo28⟩:=Kd.R_slice HO105.out;subst eo28)|((with_reducible refine aJ (f:=45) rfl ?_);refine aV (some 8) Tryz.func45 #[.int .i64 1000,.slice Ao28 y103.length co28] ?_;(with_reducible refine (jX 1000 _ _ y103 false _ ?side1 ?side2 A3.out).mono ?_);(case side1=>exact kJ (Kd.R_reads' HO105.out).2.2);(case side2=>exact (Kd.R_reads' HO105.out).2.1);rintro e w29 ⟨rfl,hb⟩;refine ⟨_,rfl,?_⟩;replace HO105:=aE (Kd.R_below (bN HO105) hb);replace BK101:=aE (bB BK101 hb);replace BK102:=aE (bB BK102 hb);replace HB:=aE (aD (aX HB) hb);(try clear hb);(try clear hk)))
  go_ret
  exact ⟨bP,aX HB⟩
/-! ### impl_triplesOf: function 38 -/
mutual
def fT:Nat→Int→List (pO)→Int→Option ((List (pO)))
 | 0,_,_,_=>none
 | k+1,x0,x3,x4=>if x4<x0 then (fU k x0 x3 x4 (wrap64 (x4+1))) else (some x3)
def fU:Nat→Int→List (pO)→Int→Int→Option ((List (pO)))
 | 0,_,_,_,_=>none
 | k+1,x0,x3,x4,x5=>if x5<x0 then (fV k x0 x3 x4 x5 (wrap64 (x5+1))) else (fT k x0 x3 (wrap64 (x4+1)))
def fV:Nat→Int→List (pO)→Int→Int→Int→Option ((List (pO)))
 | 0,_,_,_,_,_=>none
 | k+1,x0,x3,x4,x5,x6=>if x6<x0 then (if x3.length<5864062014805 then (fV k x0 (x3++[(⟨x4,x5,x6⟩:pO)]) x4 x5 (wrap64 (x6+1))) else (none)) else (fU k x0 x3 x4 (wrap64 (x5+1)))
end
def impl_triplesOf.f (k:Nat) (a0:Int):Option ((List (pO))):=fT k a0 ([]:List (pO)) 0
theorem nA:∀ k,(∀ y0 y1 y2,LeO (fT k y0 y1 y2) (fT (k+1) y0 y1 y2))∧(∀ y0 y1 y2 y3,LeO (fU k y0 y1 y2 y3) (fU (k+1) y0 y1 y2 y3))∧(∀ y0 y1 y2 y3 y4,LeO (fV k y0 y1 y2 y3 y4) (fV (k+1) y0 y1 y2 y3 y4))
 | 0=>⟨fun _ _ _ r h=>by simp [fT] at h,fun _ _ _ _ r h=>by simp [fU] at h,fun _ _ _ _ _ r h=>by simp [fV] at h⟩
 | k+1=>by
  obtain ⟨ih0,ih1,ih2⟩:=nA k
  refine ⟨?_,?_,?_⟩ <;> (intros;(first|unfold fT|unfold fU|unfold fV);repeat' (with_reducible first|exact ih0 _ _ _|exact ih1 _ _ _ _|exact ih2 _ _ _ _ _|exact LeO.refl _|exact LeO.none _|refine jA ?_ ?_|refine LeO.bind ?_ (fun _=>?_)))
theorem impl_triplesOf.mono:∀ a0 k,LeO (impl_triplesOf.f k a0) (impl_triplesOf.f (k+1) a0):=by
 intro a0 k
 obtain ⟨ih0,ih1,ih2⟩:=nA k
 unfold impl_triplesOf.f
 repeat' (with_reducible first|exact ih0 _ _ _|exact ih1 _ _ _ _|exact ih2 _ _ _ _ _|exact LeO.refl _|exact LeO.none _|refine jA ?_ ?_|refine LeO.bind ?_ (fun _=>?_))
set_option maxHeartbeats 8000000 in
set_option maxRecDepth 100000 in
theorem eI (k : Nat) (a0 : Int) (r : List (pO)) (w : World) (h : impl_triplesOf.f k a0 = some r) :
  Calls Tryz.prog 38 #[.int .i64 a0] w fun e w'=>∃ v0_:Value,e=.returned (v0_)∧Kd.R FQ 56 w' w.heap.size (fun _=>True) v0_ r∧Below w.heap.size w w':=by
 have hu56:=Tryz.underlying56
 have HB:=aE (Below.refl w.heap.size w)
 unfold impl_triplesOf.f at h
 have H:=h
 clear h
 have H':=aE H
 clear H
 go_enter Tryz.func38,Tryz.ntmps38
 go_wp2
 go_loopg [3,4] k (fun kq v3 v4 w'=>∃ (x3_1:List (pO)) (x4_1:Int),v4=.int .i64 x4_1∧Aside0 (fT kq a0 x3_1 x4_1=some r)∧Aside0 (kq≤k)∧Aside0 (Kd.R FQ 56 w' w.heap.size (fun _=>True) v3 x3_1)∧Aside0 (Below w.heap.size w w'))
 case atStart=>exact ⟨(([]:List (pO))),(0),aH,H',⟨Nat.le_refl _⟩,⟨by first|exact Kd.R_nil _ _ _ _ _|exact Kd.N_nil _ _ _ _ _|exact Kd.V_nil _ _ _ _ _|exact Kd.Q_nil _ _ _ _ _|exact Kd.S_nil _ _ _ _ _⟩,⟨aX HB⟩⟩
 case round =>
  clear H'
  obtain ⟨x3_1,x4_1,rfl,HA,HK1,HO_3,HB⟩:=hrel
  cases gk with
  | zero=>exact absurd HA.out (by simp [fT])
  | succ k1 =>
   have H:=HA.out
   clear HA
   simp only [fT] at H
   rcases eV H with ⟨c2b0,H⟩|⟨c2b0,H⟩
   ·have H' := aE H
    clear H
    go_wp2
    go_loopg [3,5] k1 (fun kq v3 v5 w'=>∃ (x3_2:List (pO)) (x5_2:Int),v5=.int .i64 x5_2∧Aside0 (fU kq a0 x3_2 x4_1 x5_2=some r)∧Aside0 (kq≤k1)∧Aside0 (Kd.R FQ 56 w' w.heap.size (fun _=>True) v3 x3_2)∧Aside0 (Below w.heap.size w w'))
    case atStart=>exact ⟨(x3_1),(wrap64 (x4_1+1)),aH,H',⟨Nat.le_refl _⟩,⟨bN HO_3⟩,⟨aX HB⟩⟩
    case round =>
     clear H'
     try clear c2b0
     obtain ⟨x3_2,x5_2,rfl,HA,HK2,HO_3,HB⟩:=hrel
     cases gk with
     | zero=>exact absurd HA.out (by simp [fU])
     | succ k2 =>
      have H:=HA.out
      clear HA
      simp only [fU] at H
      rcases eV H with ⟨c3b0,H⟩|⟨c3b0,H⟩
      ·have H':=aE H
       clear H
       go_wp2
       go_loopg [3,6] k2 (fun kq v3 v6 w'=>∃ (x3_3:List (pO)) (x6_3:Int),v6=.int .i64 x6_3∧Aside0 (fV kq a0 x3_3 x4_1 x5_2 x6_3=some r)∧Aside0 (kq≤k2)∧Aside0 (Kd.R FQ 56 w' w.heap.size (fun _=>True) v3 x3_3)∧Aside0 (Below w.heap.size w w'))
       case atStart=>exact ⟨(x3_2),(wrap64 (x5_2+1)),aH,H',⟨Nat.le_refl _⟩,⟨bN HO_3⟩,⟨aX HB⟩⟩
       case round =>
        clear H'
        try clear c2b0
        try clear c3b0
        obtain ⟨x3_3,x6_3,rfl,HA,HK3,HO_3,HB⟩:=hrel
        cases gk with
        | zero=>exact absurd HA.out (by simp [fV])
        | succ k3 =>
         have H:=HA.out
         clear HA
         simp only [fV] at H
         rcases eV H with ⟨c4b0,H⟩|⟨c4b0,H⟩
         ·obtain ⟨c5,H⟩:=gQ H
          have LMc5:=aE c5
          clear c5
          obtain ⟨y101,hy101⟩:∃ y_:List (pO),y_=(x3_3++[(⟨x4_1,x5_2,x6_3⟩:pO)]):=⟨_,rfl⟩
          first|(with_reducible replace H:=oO hy101 H)|(with_reducible replace H:=oP hy101 H)|rw [← hy101] at H
          have Ny101:=aE hy101
          clear hy101
          have H':=aE H
          clear H
          go_wp2_with (first|((with_reducible refine cT (b:=.append) (xs:=#[.tmp 26,.tmp 31]) rfl ?_);at_builtin;refine Kd.R_append FQ (w0:=w) w.heap.size rfl (.tmp 26) (.tmp 31) 57 56 (.agg #[(.int .i64 0),(.int .i64 0),(.int .i64 0)]) 24 rfl Tryz.underlying57 WA rfl (by decide) (by omega) u3 x3_3 (⟨x4_1,x5_2,x6_3⟩:pO) [.int .i64 x4_1,.int .i64 x5_2,.int .i64 x6_3] (fun _=>True) (fun _=>False) rfl rfl ?aP (fun _ hk=>hk.elim) ?aF ?aO ?aB ?aS ?aL ?_;(case aP=>exact UB _ _ _ (⟨x4_1,x5_2,x6_3⟩:pO));(case aB=>exact (aX HB));(case aF=>exact (fun _ _=>trivial));(case aO=>exact (bN HO_3));(case aS=>exact (aT (aX HB)));(case aL=>have:=LMc5.out;omega);intro v102 w6 ho hb hg hat;rw [← Ny101.out] at ho;replace HB:=aE (hb);have HO103:=aE (ho);clear HO_3;clear ho hb hg hat))
          go_roundg k3
          case measure=>have:=HK1.out;have:=HK2.out;have:=HK3.out;omega
          case rel=>exact ⟨(y101),(wrap64 (x6_3+1)),aH,H',⟨by have:=HK1.out;have:=HK2.out;have:=HK3.out;omega⟩,⟨bN HO103⟩,⟨aX HB⟩⟩
         ·have H':=aE H
          clear H
          go_wp2
          go_roundg k3
          case measure=>have:=HK1.out;have:=HK2.out;have:=HK3.out;omega
          case rel=>exact ⟨(x3_3),(wrap64 (x5_2+1)),aH,H',⟨by have:=HK1.out;have:=HK2.out;have:=HK3.out;omega⟩,⟨bN HO_3⟩,⟨aX HB⟩⟩
      ·have H':=aE H
       clear H
       go_wp2
       go_roundg k2
       case measure=>have:=HK1.out;have:=HK2.out;omega
       case rel=>exact ⟨(x3_2),(wrap64 (x4_1+1)),aH,H',⟨by have:=HK1.out;have:=HK2.out;omega⟩,⟨bN HO_3⟩,⟨aX HB⟩⟩
   ·obtain rfl:=Option.some.inj H
    go_wp2
    go_ret
    exact ⟨_,bP,bN HO_3,aX HB⟩
/-! ### impl_area: function 66 -/
def impl_area.f (a0_0:Int) (a0_1:Int) (a1_0:Int) (a1_1:Int) (a2_0:Int) (a2_1:Int):Option (Int):=some (wrap64 ((wrap64 ((wrap64 (a1_0-a0_0))*(wrap64 (a2_1-a0_1))))-(wrap64 ((wrap64 (a1_1-a0_1))*(wrap64 (a2_0-a0_0))))))
set_option maxHeartbeats 8000000 in
set_option maxRecDepth 100000 in
theorem tZ (a0_0:Int) (a0_1:Int) (a1_0:Int) (a1_1:Int) (a2_0:Int) (a2_1:Int) (r:Int) (w:World) (h:impl_area.f a0_0 a0_1 a1_0 a1_1 a2_0 a2_1=some r) :
  Calls Tryz.prog 66 #[.agg #[.int .i64 a0_0,.int .i64 a0_1],.agg #[.int .i64 a1_0,.int .i64 a1_1],.agg #[.int .i64 a2_0,.int .i64 a2_1]] w fun e w'=>e=.returned (.int .i64 r)∧Below w.heap.size w w':=by
 have hu28:=Tryz.underlying28
 have HB:=aE (Below.refl w.heap.size w)
 unfold impl_area.f at h
 have H:=h
 clear h
 obtain rfl:=Option.some.inj H
 go_enter Tryz.func66,Tryz.ntmps66
 go_wp2_with (first|((with_reducible refine aN (N:=3) rfl ?_);refine bV (N:=3) #[.int .i64 a0_0,.int .i64 a0_1] 28 ?_;intro gb101 hg w4 hbox hb;have BK101:=aE (hbox);have GW101:=aE ((dX HB hg));have GE101:=aE ((dX HB hg));replace HB:=aE (aD (aX HB) hb);clear hb hbox hg)|((with_reducible refine aN (N:=4) rfl ?_);refine bV (N:=4) #[.int .i64 a1_0,.int .i64 a1_1] 28 ?_;intro gb102 hg w5 hbox hb;have BK102:=aE (hbox);have GW102:=aE ((dX HB hg));have GE102:=aE ((dX HB hg));replace HB:=aE (aD (aX HB) hb);have NB101_102:=aE ((iX BK101 hg));have NB102_101:=aE ((iY BK101 hg));replace BK101:=aE (bB BK101 hb);clear hb hbox hg)|((with_reducible refine aN (N:=5) rfl ?_);refine bV (N:=5) #[.int .i64 a2_0,.int .i64 a2_1] 28 ?_;intro gb103 hg w6 hbox hb;have BK103:=aE (hbox);have GW103:=aE ((dX HB hg));have GE103:=aE ((dX HB hg));replace HB:=aE (aD (aX HB) hb);have NB101_103:=aE ((iX BK101 hg));have NB103_101:=aE ((iY BK101 hg));replace BK101:=aE (bB BK101 hb);have NB102_103:=aE ((iX BK102 hg));have NB103_102:=aE ((iY BK102 hg));replace BK102:=aE (bB BK102 hb);clear hb hbox hg;have hnb7:=NB102_101.out;have hnc7:=NB101_102.out;have hnb8:=NB102_103.out;have hnc8:=NB103_102.out;have hcz9_0:=aW BK102 0;have hcz9_1:=aW BK102 1;have hfz9_0:=aA BK102.out 0;have hfz9_1:=aA BK102.out 1;have hnb10:=NB101_103.out;have hnc10:=NB103_101.out;have hcz11_0:=aW BK101 0;have hcz11_1:=aW BK101 1;have hfz11_0:=aA BK101.out 0;have hfz11_1:=aA BK101.out 1;have hcz12_0:=aW BK103 0;have hcz12_1:=aW BK103 1;have hfz12_0:=aA BK103.out 0;have hfz12_1:=aA BK103.out 1))
 go_ret
 exact ⟨bP,aX HB⟩
/-! ### cmp_isNaN_int: function 112 -/
def cmp_isNaN_int.f (a0:Int):Option (Bool):=some (a0 != a0)
set_option maxHeartbeats 8000000 in
set_option maxRecDepth 100000 in
theorem dI (a0:Int) (r:Bool) (w:World) (h:cmp_isNaN_int.f a0=some r) :
  Calls Tryz.prog 112 #[.int .i64 a0] w fun e w'=>e=.returned (.bool r)∧gH w w':=by
 unfold cmp_isNaN_int.f at h
 have H:=h
 clear h
 obtain rfl:=Option.some.inj H
 go_enter Tryz.func112,Tryz.ntmps112
 go_wp2
 go_ret
 exact ⟨aH,by repeat (first|exact gH.refl _|apply bF)⟩
/-! ### cmp_Compare_int: function 99 -/
def cmp_Compare_int.f (a0:Int) (a1:Int):Option (Int):=(cmp_isNaN_int.f a0).bind fun t101=>((cmp_isNaN_int.f a1).bind fun t102=>(if t101=true then (if t102=true then (some 0) else (some (-1))) else (if t102=true then (some 1) else (if a0<a1 then (some (-1)) else (if a0 > a1 then (some 1) else (some 0))))))
set_option maxHeartbeats 8000000 in
set_option maxRecDepth 100000 in
theorem uI (a0:Int) (a1:Int) (r:Int) (w:World) (h:cmp_Compare_int.f a0 a1=some r) :
  Calls Tryz.prog 99 #[.int .i64 a0,.int .i64 a1] w fun e w'=>e=.returned (.int .i64 r)∧gH w w':=by
 unfold cmp_Compare_int.f at h
 have H:=h
 clear h
 replace H:=eM H
 obtain ⟨t101,A3,H⟩:=H
 replace H:=eM H
 obtain ⟨t102,A4,H⟩:=H
 by_cases c5:t101=true
 ·subst c5
  rw [if_pos rfl] at H
  by_cases c6:t102=true
  ·subst c6
   rw [if_pos rfl] at H
   obtain rfl:=Option.some.inj H
   go_enter Tryz.func99,Tryz.ntmps99
   go_wp2_with (first|((with_reducible refine aJ (f:=112) rfl ?_);refine aV (some 8) Tryz.func112 #[.int .i64 a0] ?_;(with_reducible refine (dI a0 true _ A3.out).mono ?_);rintro e w' ⟨rfl,⟨nd,rfl⟩⟩;refine ⟨_,rfl,?_⟩)|((with_reducible refine aJ (f:=112) rfl ?_);refine aV (some 10) Tryz.func112 #[.int .i64 a1] ?_;(with_reducible refine (dI a1 true _ A4.out).mono ?_);rintro e w' ⟨rfl,⟨nd,rfl⟩⟩;refine ⟨_,rfl,?_⟩))
   go_ret
   exact ⟨aH,by repeat (first|exact gH.refl _|apply bF)⟩
  ·replace c6:=Bool.eq_false_iff.mpr c6
   subst c6
   rw [if_neg (show ¬ (false=true) by decide)] at H
   obtain rfl:=Option.some.inj H
   go_enter Tryz.func99,Tryz.ntmps99
   go_wp2_with (first|((with_reducible refine aJ (f:=112) rfl ?_);refine aV (some 8) Tryz.func112 #[.int .i64 a0] ?_;(with_reducible refine (dI a0 true _ A3.out).mono ?_);rintro e w' ⟨rfl,⟨nd,rfl⟩⟩;refine ⟨_,rfl,?_⟩)|((with_reducible refine aJ (f:=112) rfl ?_);refine aV (some 10) Tryz.func112 #[.int .i64 a1] ?_;(with_reducible refine (dI a1 false _ A4.out).mono ?_);rintro e w' ⟨rfl,⟨nd,rfl⟩⟩;refine ⟨_,rfl,?_⟩))
   go_ret
   exact ⟨aH,by repeat (first|exact gH.refl _|apply bF)⟩
 ·replace c5:=Bool.eq_false_iff.mpr c5
  subst c5
  rw [if_neg (show ¬ (false=true) by decide)] at H
  by_cases c7:t102=true
  ·subst c7
   rw [if_pos rfl] at H
   obtain rfl:=Option.some.inj H
   go_enter Tryz.func99,Tryz.ntmps99
   go_wp2_with (first|((with_reducible refine aJ (f:=112) rfl ?_);refine aV (some 8) Tryz.func112 #[.int .i64 a0] ?_;(with_reducible refine (dI a0 false _ A3.out).mono ?_);rintro e w' ⟨rfl,⟨nd,rfl⟩⟩;refine ⟨_,rfl,?_⟩)|((with_reducible refine aJ (f:=112) rfl ?_);refine aV (some 10) Tryz.func112 #[.int .i64 a1] ?_;(with_reducible refine (dI a1 true _ A4.out).mono ?_);rintro e w' ⟨rfl,⟨nd,rfl⟩⟩;refine ⟨_,rfl,?_⟩))
   go_ret
   exact ⟨aH,by repeat (first|exact gH.refl _|apply bF)⟩
  ·replace c7:=Bool.eq_false_iff.mpr c7
   subst c7
   rw [if_neg (show ¬ (false=true) by decide)] at H
   rcases eV H with ⟨c8b0,H⟩|⟨c8b0,H⟩
   ·obtain rfl:=Option.some.inj H
    go_enter Tryz.func99,Tryz.ntmps99
    go_wp2_with (first|((with_reducible refine aJ (f:=112) rfl ?_);refine aV (some 8) Tryz.func112 #[.int .i64 a0] ?_;(with_reducible refine (dI a0 false _ A3.out).mono ?_);rintro e w' ⟨rfl,⟨nd,rfl⟩⟩;refine ⟨_,rfl,?_⟩)|((with_reducible refine aJ (f:=112) rfl ?_);refine aV (some 10) Tryz.func112 #[.int .i64 a1] ?_;(with_reducible refine (dI a1 false _ A4.out).mono ?_);rintro e w' ⟨rfl,⟨nd,rfl⟩⟩;refine ⟨_,rfl,?_⟩))
    go_ret
    exact ⟨aH,by repeat (first|exact gH.refl _|apply bF)⟩
   ·rcases eV H with ⟨c9b0,H⟩|⟨c9b0,H⟩
    ·obtain rfl:=Option.some.inj H
     go_enter Tryz.func99,Tryz.ntmps99
     go_wp2_with (first|((with_reducible refine aJ (f:=112) rfl ?_);refine aV (some 8) Tryz.func112 #[.int .i64 a0] ?_;(with_reducible refine (dI a0 false _ A3.out).mono ?_);rintro e w' ⟨rfl,⟨nd,rfl⟩⟩;refine ⟨_,rfl,?_⟩)|((with_reducible refine aJ (f:=112) rfl ?_);refine aV (some 10) Tryz.func112 #[.int .i64 a1] ?_;(with_reducible refine (dI a1 false _ A4.out).mono ?_);rintro e w' ⟨rfl,⟨nd,rfl⟩⟩;refine ⟨_,rfl,?_⟩))
     go_ret
     exact ⟨aH,by repeat (first|exact gH.refl _|apply bF)⟩
    ·obtain rfl:=Option.some.inj H
     go_enter Tryz.func99,Tryz.ntmps99
     go_wp2_with (first|((with_reducible refine aJ (f:=112) rfl ?_);refine aV (some 8) Tryz.func112 #[.int .i64 a0] ?_;(with_reducible refine (dI a0 false _ A3.out).mono ?_);rintro e w' ⟨rfl,⟨nd,rfl⟩⟩;refine ⟨_,rfl,?_⟩)|((with_reducible refine aJ (f:=112) rfl ?_);refine aV (some 10) Tryz.func112 #[.int .i64 a1] ?_;(with_reducible refine (dI a1 false _ A4.out).mono ?_);rintro e w' ⟨rfl,⟨nd,rfl⟩⟩;refine ⟨_,rfl,?_⟩))
     go_ret
     exact ⟨aH,by repeat (first|exact gH.refl _|apply bF)⟩
/-! ### impl_signOf: function 74 -/
def impl_signOf.f (a0:Int):Option (Int):=(cmp_Compare_int.f a0 0).bind fun t101=>(some t101)
set_option maxHeartbeats 8000000 in
set_option maxRecDepth 100000 in
theorem yW (a0:Int) (r:Int) (w:World) (h:impl_signOf.f a0=some r) :
  Calls Tryz.prog 74 #[.int .i64 a0] w fun e w'=>e=.returned (.int .i64 r)∧gH w w':=by
 unfold impl_signOf.f at h
 have H:=h
 clear h
 replace H:=eM H
 obtain ⟨t101,A2,H⟩:=H
 obtain rfl:=Option.some.inj H
 go_enter Tryz.func74,Tryz.ntmps74
 go_wp2_with (first|((with_reducible refine aJ (f:=99) rfl ?_);refine aV (some 4) Tryz.func99 #[.int .i64 a0,.int .i64 0] ?_;(with_reducible refine (uI a0 0 t101 _ A2.out).mono ?_);rintro e w' ⟨rfl,⟨nd,rfl⟩⟩;refine ⟨_,rfl,?_⟩))
 go_ret
 exact ⟨aH,by repeat (first|exact gH.refl _|apply bF)⟩
/-! ### impl_TurnOf: function 49 -/
def impl_TurnOf.f (a0_0:Int) (a0_1:Int) (a1_0:Int) (a1_1:Int) (a2_0:Int) (a2_1:Int):Option (Int):=(impl_areNear.f 1000 (([(⟨a0_0,a0_1⟩:cF),(⟨a1_0,a1_1⟩:cF),(⟨a2_0,a2_1⟩:cF)]:List (cF)))).bind fun t107=>(if t107=true then ((impl_area.f a0_0 a0_1 a1_0 a1_1 a2_0 a2_1).bind fun t108=>((impl_signOf.f t108).bind fun t109=>(some t109))) else (some 0))
set_option maxHeartbeats 8000000 in
set_option maxRecDepth 100000 in
theorem kG (a0_0:Int) (a0_1:Int) (a1_0:Int) (a1_1:Int) (a2_0:Int) (a2_1:Int) (r:Int) (w:World) (h:impl_TurnOf.f a0_0 a0_1 a1_0 a1_1 a2_0 a2_1=some r) :
  Calls Tryz.prog 49 #[.agg #[.int .i64 a0_0,.int .i64 a0_1],.agg #[.int .i64 a1_0,.int .i64 a1_1],.agg #[.int .i64 a2_0,.int .i64 a2_1]] w fun e w'=>e=.returned (.int .i64 r)∧Below w.heap.size w w':=by
 have hu28:=Tryz.underlying28
 have HB:=aE (Below.refl w.heap.size w)
 unfold impl_TurnOf.f at h
 have H:=h
 clear h
 obtain ⟨y104,hy104⟩:∃ y_:List (cF),y_=(([(⟨a0_0,a0_1⟩:cF),(⟨a1_0,a1_1⟩:cF),(⟨a2_0,a2_1⟩:cF)]:List (cF))):=⟨_,rfl⟩
 first|(with_reducible replace H:=oO hy104 H)|(with_reducible replace H:=oP hy104 H)|rw [← hy104] at H
 have Ny104:=aE hy104
 clear hy104
 replace H:=eM H
 obtain ⟨t107,A4,H⟩:=H
 by_cases c5:t107=true
 ·subst c5
  rw [if_pos rfl] at H
  replace H:=eM H
  obtain ⟨t108,A6,H⟩:=H
  replace H:=eM H
  obtain ⟨t109,A7,H⟩:=H
  obtain rfl:=Option.some.inj H
  go_enter Tryz.func49,Tryz.ntmps49
  go_wp2_with (first|((with_reducible refine aN (N:=3) rfl ?_);refine bV (N:=3) #[.int .i64 a0_0,.int .i64 a0_1] 28 ?_;intro gb101 hg w8 hbox hb;have BK101:=aE (hbox);have GW101:=aE ((dX HB hg));have GE101:=aE ((dX HB hg));replace HB:=aE (aD (aX HB) hb);clear hb hbox hg)|((with_reducible refine aN (N:=4) rfl ?_);refine bV (N:=4) #[.int .i64 a1_0,.int .i64 a1_1] 28 ?_;intro gb102 hg w9 hbox hb;have BK102:=aE (hbox);have GW102:=aE ((dX HB hg));have GE102:=aE ((dX HB hg));replace HB:=aE (aD (aX HB) hb);have NB101_102:=aE ((iX BK101 hg));have NB102_101:=aE ((iY BK101 hg));replace BK101:=aE (bB BK101 hb);clear hb hbox hg)|((with_reducible refine aN (N:=5) rfl ?_);refine bV (N:=5) #[.int .i64 a2_0,.int .i64 a2_1] 28 ?_;intro gb103 hg w10 hbox hb;have BK103:=aE (hbox);have GW103:=aE ((dX HB hg));have GE103:=aE ((dX HB hg));replace HB:=aE (aD (aX HB) hb);have NB101_103:=aE ((iX BK101 hg));have NB103_101:=aE ((iY BK101 hg));replace BK101:=aE (bB BK101 hb);have NB102_103:=aE ((iX BK102 hg));have NB103_102:=aE ((iY BK102 hg));replace BK102:=aE (bB BK102 hb);clear hb hbox hg;have hnb11:=NB101_102.out;have hnc11:=NB102_101.out;have hnb12:=NB101_103.out;have hnc12:=NB103_101.out;have hcz13_0:=aW BK101 0;have hcz13_1:=aW BK101 1;have hfz13_0:=aA BK101.out 0;have hfz13_1:=aA BK101.out 1;have hnb14:=NB102_103.out;have hnc14:=NB103_102.out;have hcz15_0:=aW BK102 0;have hcz15_1:=aW BK102 1;have hfz15_0:=aA BK102.out 0;have hfz15_1:=aA BK102.out 1;have hcz16_0:=aW BK103 0;have hcz16_1:=aW BK103 1;have hfz16_0:=aA BK103.out 0;have hfz16_1:=aA BK103.out 1)|((with_reducible refine aN (N:=10) rfl ?_);refine Kd.R_lit jW _ 28 ?hg (N:=10) ?hd (xs:=([(⟨a0_0,a0_1⟩:cF),(⟨a1_0,a1_1⟩:cF),(⟨a2_0,a2_1⟩:cF)]:List (cF))) (inner:=[.int .i64 a0_0,.int .i64 a0_1,.int .i64 a1_0,.int .i64 a1_1,.int .i64 a2_0,.int .i64 a2_1]) (ok:=fun _=>True) (okp:=fun _=>True) ?hr ?hp (fun _ hk=>hk) trivial (Below.refl _ _) (Nat.le_refl _) (by simp) ?_;(case hd=>rfl);(case hg=>rfl);(case hr=>first|(go_simp;done)|(go_simp;rfl));(case hp=>exact (lF (show Kd.M jW _ _ _ (⟨a0_0,a0_1⟩:cF) [.int .i64 a0_0,.int .i64 a0_1] from (jO _ _ _ (⟨a0_0,a0_1⟩:cF) )) (lF (show Kd.M jW _ _ _ (⟨a1_0,a1_1⟩:cF) [.int .i64 a1_0,.int .i64 a1_1] from (jO _ _ _ (⟨a1_0,a1_1⟩:cF) )) (lF (show Kd.M jW _ _ _ (⟨a2_0,a2_1⟩:cF) [.int .i64 a2_0,.int .i64 a2_1] from (jO _ _ _ (⟨a2_0,a2_1⟩:cF) )) (kC.none _ _)))));intro v105 w17 ho18 hb hg_ hnew_;clear hg_ hnew_;(first|rw [← Ny104.out] at ho18|(simp only [Int.reduceToNat] at ho18;rw [← Ny104.out] at ho18));have HO106:=aE (Kd.R_lower (Kd.R_newB (Kd.R_newB (Kd.R_newB ho18 (g:=gb101) (o:=.cells #[.int .i64 a0_0,.int .i64 a0_1] 28 (0,0)) (fO BK101)) (g:=gb102) (o:=.cells #[.int .i64 a1_0,.int .i64 a1_1] 28 (0,0)) (fO BK102)) (g:=gb103) (o:=.cells #[.int .i64 a2_0,.int .i64 a2_1] 28 (0,0)) (fO BK103)) (aT (aX HB)));replace BK101:=aE (bB BK101 hb);replace BK102:=aE (bB BK102 hb);replace BK103:=aE (bB BK103 hb);replace HB:=aE (aD (aX HB) hb);clear hb ho18;obtain ⟨Ao19,co19,eo19⟩:=Kd.R_slice HO106.out;subst eo19)|((with_reducible refine aJ (f:=45) rfl ?_);refine aV (some 11) Tryz.func45 #[.int .i64 1000,.slice Ao19 y104.length co19] ?_;(with_reducible refine (jX 1000 _ _ y104 true _ ?side1 ?side2 A4.out).mono ?_);(case side1=>exact kJ (Kd.R_reads' HO106.out).2.2);(case side2=>exact (Kd.R_reads' HO106.out).2.1);rintro e w20 ⟨rfl,hb⟩;refine ⟨_,rfl,?_⟩;replace HO106:=aE (Kd.R_below (bN HO106) hb);replace BK101:=aE (bB BK101 hb);replace BK102:=aE (bB BK102 hb);replace BK103:=aE (bB BK103 hb);replace HB:=aE (aD (aX HB) hb);(try clear hb);(try clear hk);have hcz21_0:=aW BK101 0;have hcz21_1:=aW BK101 1;have hfz21_0:=aA BK101.out 0;have hfz21_1:=aA BK101.out 1;have hcz22_0:=aW BK102 0;have hcz22_1:=aW BK102 1;have hfz22_0:=aA BK102.out 0;have hfz22_1:=aA BK102.out 1;have hcz23_0:=aW BK103 0;have hcz23_1:=aW BK103 1;have hfz23_0:=aA BK103.out 0;have hfz23_1:=aA BK103.out 1)|((with_reducible refine aJ (f:=66) rfl ?_);refine aV (some 16) Tryz.func66 #[.agg #[.int .i64 a0_0,.int .i64 a0_1],.agg #[.int .i64 a1_0,.int .i64 a1_1],.agg #[.int .i64 a2_0,.int .i64 a2_1]] ?_;(with_reducible refine (tZ a0_0 a0_1 a1_0 a1_1 a2_0 a2_1 t108 _ A6.out).mono ?_);rintro e w24 ⟨rfl,hb⟩;refine ⟨_,rfl,?_⟩;replace HO106:=aE (Kd.R_below (bN HO106) hb);replace BK101:=aE (bB BK101 hb);replace BK102:=aE (bB BK102 hb);replace BK103:=aE (bB BK103 hb);replace HB:=aE (aD (aX HB) hb);(try clear hb);(try clear hk))|((with_reducible refine aJ (f:=74) rfl ?_);refine aV (some 17) Tryz.func74 #[.int .i64 t108] ?_;(with_reducible refine (yW t108 t109 _ A7.out).mono ?_);rintro e w' ⟨rfl,⟨nd,rfl⟩⟩;refine ⟨_,rfl,?_⟩))
  go_ret
  exact ⟨bP,aX HB⟩
 ·replace c5:=Bool.eq_false_iff.mpr c5
  subst c5
  rw [if_neg (show ¬ (false=true) by decide)] at H
  obtain rfl:=Option.some.inj H
  go_enter Tryz.func49,Tryz.ntmps49
  go_wp2_with (first|((with_reducible refine aN (N:=3) rfl ?_);refine bV (N:=3) #[.int .i64 a0_0,.int .i64 a0_1] 28 ?_;intro gb101 hg w25 hbox hb;have BK101:=aE (hbox);have GW101:=aE ((dX HB hg));have GE101:=aE ((dX HB hg));replace HB:=aE (aD (aX HB) hb);clear hb hbox hg)|((with_reducible refine aN (N:=4) rfl ?_);refine bV (N:=4) #[.int .i64 a1_0,.int .i64 a1_1] 28 ?_;intro gb102 hg w26 hbox hb;have BK102:=aE (hbox);have GW102:=aE ((dX HB hg));have GE102:=aE ((dX HB hg));replace HB:=aE (aD (aX HB) hb);have NB101_102:=aE ((iX BK101 hg));have NB102_101:=aE ((iY BK101 hg));replace BK101:=aE (bB BK101 hb);clear hb hbox hg)|((with_reducible refine aN (N:=5) rfl ?_);refine bV (N:=5) #[.int .i64 a2_0,.int .i64 a2_1] 28 ?_;intro gb103 hg w27 hbox hb;have BK103:=aE (hbox);have GW103:=aE ((dX HB hg));have GE103:=aE ((dX HB hg));replace HB:=aE (aD (aX HB) hb);have NB101_103:=aE ((iX BK101 hg));have NB103_101:=aE ((iY BK101 hg));replace BK101:=aE (bB BK101 hb);have NB102_103:=aE ((iX BK102 hg));have NB103_102:=aE ((iY BK102 hg));replace BK102:=aE (bB BK102 hb);clear hb hbox hg;have hnb28:=NB101_102.out;have hnc28:=NB102_101.out;have hnb29:=NB101_103.out;have hnc29:=NB103_101.out;have hcz30_0:=aW BK101 0;have hcz30_1:=aW BK101 1;have hfz30_0:=aA BK101.out 0;have hfz30_1:=aA BK101.out 1;have hnb31:=NB102_103.out;have hnc31:=NB103_102.out;have hcz32_0:=aW BK102 0;have hcz32_1:=aW BK102 1;have hfz32_0:=aA BK102.out 0;have hfz32_1:=aA BK102.out 1;have hcz33_0:=aW BK103 0;have hcz33_1:=aW BK103 1;have hfz33_0:=aA BK103.out 0;have hfz33_1:=aA BK103.out 1)|((with_reducible refine aN (N:=10) rfl ?_);refine Kd.R_lit jW _ 28 ?hg (N:=10) ?hd (xs:=([(⟨a0_0,a0_1⟩:cF),(⟨a1_0,a1_1⟩:cF),(⟨a2_0,a2_1⟩:cF)]:List (cF))) (inner:=[.int .i64 a0_0,.int .i64 a0_1,.int .i64 a1_0,.int .i64 a1_1,.int .i64 a2_0,.int .i64 a2_1]) (ok:=fun _=>True) (okp:=fun _=>True) ?hr ?hp (fun _ hk=>hk) trivial (Below.refl _ _) (Nat.le_refl _) (by simp) ?_;(case hd=>rfl);(case hg=>rfl);(case hr=>first|(go_simp;done)|(go_simp;rfl));(case hp=>exact (lF (show Kd.M jW _ _ _ (⟨a0_0,a0_1⟩:cF) [.int .i64 a0_0,.int .i64 a0_1] from (jO _ _ _ (⟨a0_0,a0_1⟩:cF) )) (lF (show Kd.M jW _ _ _ (⟨a1_0,a1_1⟩:cF) [.int .i64 a1_0,.int .i64 a1_1] from (jO _ _ _ (⟨a1_0,a1_1⟩:cF) )) (lF (show Kd.M jW _ _ _ (⟨a2_0,a2_1⟩:cF) [.int .i64 a2_0,.int .i64 a2_1] from (jO _ _ _ (⟨a2_0,a2_1⟩:cF) )) (kC.none _ _)))));intro v105 w34 ho35 hb hg_ hnew_;clear hg_ hnew_;(first|rw [← Ny104.out] at ho35|(simp only [Int.reduceToNat] at ho35;rw [← Ny104.out] at ho35));have HO106:=aE (Kd.R_lower (Kd.R_newB (Kd.R_newB (Kd.R_newB ho35 (g:=gb101) (o:=.cells #[.int .i64 a0_0,.int .i64 a0_1] 28 (0,0)) (fO BK101)) (g:=gb102) (o:=.cells #[.int .i64 a1_0,.int .i64 a1_1] 28 (0,0)) (fO BK102)) (g:=gb103) (o:=.cells #[.int .i64 a2_0,.int .i64 a2_1] 28 (0,0)) (fO BK103)) (aT (aX HB)));replace BK101:=aE (bB BK101 hb);replace BK102:=aE (bB BK102 hb);replace BK103:=aE (bB BK103 hb);replace HB:=aE (aD (aX HB) hb);clear hb ho35;obtain ⟨Ao36,co36,eo36⟩:=Kd.R_slice HO106.out;subst eo36)|((with_reducible refine aJ (f:=45) rfl ?_);refine aV (some 11) Tryz.func45 #[.int .i64 1000,.slice Ao36 y104.length co36] ?_;(with_reducible refine (jX 1000 _ _ y104 false _ ?side1 ?side2 A4.out).mono ?_);(case side1=>exact kJ (Kd.R_reads' HO106.out).2.2);(case side2=>exact (Kd.R_reads' HO106.out).2.1);rintro e w37 ⟨rfl,hb⟩;refine ⟨_,rfl,?_⟩;replace HO106:=aE (Kd.R_below (bN HO106) hb);replace BK101:=aE (bB BK101 hb);replace BK102:=aE (bB BK102 hb);replace BK103:=aE (bB BK103 hb);replace HB:=aE (aD (aX HB) hb);(try clear hb);(try clear hk)))
  go_ret
  exact ⟨bP,aX HB⟩
/-! ### impl_ArePoints: function 30 -/
mutual
def fW:Nat→List (cF)→Bool→Option (Bool)
 | 0,_,_=>none
 | k+1,x0,x17=>if x17=true then (some false) else ((impl_triplesOf.f k (x0.length:Int)).bind fun t102=>(fB k x0 t102 (t102.length:Int) 0))
def fB:Nat→List (cF)→List (pO)→Int→Int→Option (Bool)
 | 0,_,_,_,_=>none
 | k+1,x0,x20,x21,x22=>if x22<x21 then (if 0≤x22 then (if x22<(x20.length:Int) then (if 0≤((aG x20 x22).f0) then (if ((aG x20 x22).f0)<(x0.length:Int) then (if 0≤((aG x20 x22).f1) then (if ((aG x20 x22).f1)<(x0.length:Int) then (if 0≤((aG x20 x22).f2) then (if ((aG x20 x22).f2)<(x0.length:Int) then ((impl_TurnOf.f ((aC x0 ((aG x20 x22).f0)).f0) ((aC x0 ((aG x20 x22).f0)).f1) ((aC x0 ((aG x20 x22).f1)).f0) ((aC x0 ((aG x20 x22).f1)).f1) ((aC x0 ((aG x20 x22).f2)).f0) ((aC x0 ((aG x20 x22).f2)).f1)).bind fun t110=>(if t110=0 then (some false) else (fB k x0 x20 x21 (wrap64 (x22+1))))) else (none)) else (none)) else (none)) else (none)) else (none)) else (none)) else (none)) else (none)) else (some true)
end
def impl_ArePoints.f (k:Nat) (l0:List (cF)):Option (Bool):=if (l0.length:Int)<3 then (fW k l0 true) else (if (l0.length:Int) > 7 then (fW k l0 true) else ((impl_areNear.f 50 l0).bind fun t101=>(fW k l0 (!t101))))
def qH:Bool×List (List Nat×List Nat):=(true,[([],[]),([],[]),([1],[1]),([0,2],[0,2]),([3],[3]),([],[]),([],[]),([6],[6]),([5,7],[5,7]),([8],[8]),([],[]),([],[]),([11],[11]),([10,12],[10,12]),([13],[13]),([4,9,14],[4,9,14]),([15],[15])])
def yX:List Nat:=[0,0,2,7,15,0,0,64,224,480,0,0,2048,7168,15360,32767,65535]
theorem oQ:iQ .any (iS Tryz.f30 6)=qH:=by kernel_rfl
theorem nV:dM qH.2 yX=true:=by kernel_rfl
set_option maxHeartbeats 8000000 in
set_option maxRecDepth 100000 in
theorem cA (k : Nat) (A0 : Option Addr) (c0 : Nat) (l0 : List (cF)) (r : Bool) (w : World) (hr0 : Kd.C jW w A0 l0.length l0) (hc0 : l0.length ≤ c0) (h : impl_ArePoints.f k l0 = some r) :
  Calls Tryz.prog 30 #[.slice A0 l0.length c0] w fun e w'=>e=.returned (.bool r)∧Below w.heap.size w w':=by
 have hu56:=Tryz.underlying56
 have hu28:=Tryz.underlying28
 have HR0:=aE hr0
 have HC0:=aE hc0
 clear hr0 hc0
 have HB:=aE (Below.refl w.heap.size w)
 unfold impl_ArePoints.f at h
 have H:=h
 clear h
 have HC2:=aE H
 clear H
 go_enter Tryz.func30,Tryz.ntmps30
 go_upto_region 1 with (fail)
 go_cut [17] (fun v17 wc=>∃ (kq:Nat) (x17_1:Bool),v17=.bool x17_1∧Aside0 (fW kq l0 x17_1=some r)∧Aside0 (kq≤k)∧Aside0 (Below w.heap.size w wc))
 case first =>
  have H:=HC2.out
  clear HC2
  rcases jE H with ⟨c3,H⟩|⟨c3,H⟩
  ·have c3b0:=decide_eq_true c3
   have c3b1:decide (l0.length<3)=true:=decide_eq_true (by omega)
   clear c3
   (first|rw [c3b0]|(simp only [cC,dW];rw [c3b0])|skip)
   have H':=aE H
   clear H
   go_wp2
   go_meet
   case rel=>exact ⟨_,(true),aH,H',⟨by first|omega|exact Nat.le_refl _⟩,⟨aX HB⟩⟩
  ·have c3b0:=decide_eq_false c3
   have c3b1:decide (l0.length<3)=false:=decide_eq_false (by omega)
   clear c3
   (first|rw [c3b0]|(simp only [cC,dW];rw [c3b0])|skip)
   rcases jE H with ⟨c4,H⟩|⟨c4,H⟩
   ·have c4b0:=decide_eq_true c4
    have c4b1:decide (7<l0.length)=true:=decide_eq_true (by omega)
    clear c4
    have H':=aE H
    clear H
    go_wp2
    go_meet
    case rel=>exact ⟨_,(true),aH,H',⟨by first|omega|exact Nat.le_refl _⟩,⟨aX HB⟩⟩
   ·have c4b0:=decide_eq_false c4
    have c4b1:decide (7<l0.length)=false:=decide_eq_false (by omega)
    clear c4
    replace H:=eM H
    obtain ⟨t101,A5,H⟩:=H
    have H':=aE H
    clear H
    go_wp2_with (first|(go_at_call 45;(with_reducible refine (jX 50 _ _ l0 t101 _ ?side1 ?side2 A5.out).mono ?_);(case side1=>exact kJ (Kd.C_below HR0.out HB.out));(case side2=>exact HC0.out);rintro e w6 ⟨rfl,hb⟩;replace HB:=aE (aD (aX HB) hb);(try clear hb);(try clear hk)))
    go_meet
    case rel=>exact ⟨_,(!t101),aH,H',⟨by first|omega|exact Nat.le_refl _⟩,⟨aX HB⟩⟩
 case rest =>
  clear HC2
  try clear c3
  try clear c3b0
  try clear c3b1
  try clear c4
  try clear c4b0
  try clear c4b1
  obtain ⟨kq,x17_1,rfl,HA,HJ1,HB⟩:=hcut
  cases kq with
  | zero=>exact absurd HA.out (by simp [fW])
  | succ kj1 =>
   have H:=HA.out
   clear HA
   simp only [fW] at H
   by_cases c7:x17_1=true
   ·subst c7
    rw [if_pos rfl] at H
    obtain rfl:=Option.some.inj H
    go_wp2
    go_ret
    exact ⟨bP,aX HB⟩
   ·replace c7:=Bool.eq_false_iff.mpr c7
    subst c7
    rw [if_neg (show ¬ (false=true) by decide)] at H
    replace H:=eM H
    obtain ⟨t102,A8,H⟩:=H
    have H':=aE H
    clear H
    go_wp2_with (first|((with_reducible refine aJ (f:=38) rfl ?_);refine aV (some 20) Tryz.func38 #[.int .i64 (l0.length:Int)] ?_;(with_reducible refine (eI kj1 (l0.length:Int) t102 _ A8.out).mono ?_);rintro e w9 ⟨v103,rfl,ho0,hb⟩;refine ⟨_,rfl,?_⟩;have HO104:=aE (Kd.R_lower ho0 (aT (aX HB)));replace HB:=aE (aD (aX HB) hb);(try clear hb);(try clear hk);(try clear ho0);obtain ⟨Ao10,co10,eo10⟩:=Kd.R_slice HO104.out;subst eo10))
    go_loopg [22] kj1 (fun kq v22 w'=>∃ (x22_2:Int),v22=.int .i64 x22_2∧Aside0 (fB kq l0 t102 (t102.length:Int) x22_2=some r)∧Aside0 (kq≤kj1)∧Aside0 (Kd.R FQ 56 w' w.heap.size (fun _=>True) (.slice Ao10 t102.length co10) t102)∧Aside0 (Below w.heap.size w w'))
    case atStart=>exact ⟨(0),aH,H',⟨Nat.le_refl _⟩,⟨bN HO104⟩,⟨aX HB⟩⟩
    case round =>
     clear H'
     try clear c3
     try clear c3b0
     try clear c3b1
     try clear c4
     try clear c4b0
     try clear c4b1
     try clear c7
     obtain ⟨x22_2,rfl,HA,HK2,HO_20,HB⟩:=hrel
     cases gk with
     | zero=>exact absurd HA.out (by simp [fB])
     | succ k2 =>
      have H:=HA.out
      clear HA
      simp only [fB] at H
      rcases eV H with ⟨c11b0,H⟩|⟨c11b0,H⟩
      ·obtain ⟨c12b0,H⟩:=cV H
       obtain ⟨c13b0,H⟩:=cV H
       obtain ⟨c14b0,H⟩:=cV H
       obtain ⟨c15b0,H⟩:=cV H
       obtain ⟨c16b0,H⟩:=cV H
       obtain ⟨c17b0,H⟩:=cV H
       obtain ⟨c18b0,H⟩:=cV H
       obtain ⟨c19b0,H⟩:=cV H
       replace H:=eM H
       obtain ⟨t110,A20,H⟩:=H
       rcases jE H with ⟨c21,H⟩|⟨c21,H⟩
       ·have c21b0:(t110==0)=true:=beq_iff_eq.mpr c21
        have c21b1:(t110 != 0)=false:=bne_eq_false_iff_eq.mpr c21
        clear c21
        obtain rfl:=Option.some.inj H
        obtain ⟨p105,q105,ad105,e105,hx105_0,hx105_1,hx105_2⟩:=jP (rR (Kd.R_reads' HO_20.out).2.2 x22_2)
        cases e105
        try go_wp2_with (first|((with_reducible refine aN (N:=4) rfl ?_);(try (refine fS (by rfl) ?_;dsimp only));refine bV (N:=4) #[.int .i64 0,.int .i64 0,.int .i64 0] 56 ?_;intro gb106 hg w22 hbox hb;replace HO_20:=aE (Kd.R_below (Kd.R_elderB (bN HO_20) gb106 (Nat.le_of_eq hg.symm)) hb);have BK106:=aE (hbox);have GW106:=aE ((dX HB hg));have GE106:=aE ((dX HB hg));replace HB:=aE (aD (aX HB) hb);clear hb hbox hg;have hcz23_0:=aW BK106 0;have hcz23_1:=aW BK106 1;have hcz23_2:=aW BK106 2;have hfz23_0:=aA BK106.out 0;have hfz23_1:=aA BK106.out 1;have hfz23_2:=aA BK106.out 2))
        replace HO_20:Aside0 (Kd.R FQ 56 (((w22.setCell ⟨gb106,0,none⟩ (.int .i64 ((aG t102 x22_2).f0))).setCell ⟨gb106,1,none⟩ (.int .i64 ((aG t102 x22_2).f1))).setCell ⟨gb106,2,none⟩ (.int .i64 ((aG t102 x22_2).f2))) w.heap.size (fun k_=>k_≠gb106) (.slice (some ad105) t102.length co10) t102):=⟨by (with_reducible repeat (first|apply kD|apply kE|apply gU));exact Kd.R_mono (Kd.R_far (p:=⟨gb106,2,none⟩) (Kd.R_far (p:=⟨gb106,1,none⟩) (Kd.R_far (p:=⟨gb106,0,none⟩) (Kd.R_mono HO_20.out (fun k_ hk=>(⟨hk,hk.2⟩:_∧k_≠gb106))) (fun _ hk=>hk.2) (.int .i64 ((aG t102 x22_2).f0))) (fun _ hk=>hk.2) (.int .i64 ((aG t102 x22_2).f1))) (fun _ hk=>hk.2) (.int .i64 ((aG t102 x22_2).f2))) (fun _ hk=>hk.1.2)⟩
        replace BK106:Aside0 ((((w22.setCell ⟨gb106,0,none⟩ (.int .i64 ((aG t102 x22_2).f0))).setCell ⟨gb106,1,none⟩ (.int .i64 ((aG t102 x22_2).f1))).setCell ⟨gb106,2,none⟩ (.int .i64 ((aG t102 x22_2).f2))).heap[gb106]? = some (.cells #[.int .i64 ((aG t102 x22_2).f0),.int .i64 ((aG t102 x22_2).f1),.int .i64 ((aG t102 x22_2).f2)] 56 (0,0))):=⟨jR BK106⟩
        replace HB:Aside0 (Below w.heap.size w (((w22.setCell ⟨gb106,0,none⟩ (.int .i64 ((aG t102 x22_2).f0))).setCell ⟨gb106,1,none⟩ (.int .i64 ((aG t102 x22_2).f1))).setCell ⟨gb106,2,none⟩ (.int .i64 ((aG t102 x22_2).f2)))):=⟨aX HB⟩
        generalize (((w22.setCell ⟨gb106,0,none⟩ (.int .i64 ((aG t102 x22_2).f0))).setCell ⟨gb106,1,none⟩ (.int .i64 ((aG t102 x22_2).f1))).setCell ⟨gb106,2,none⟩ (.int .i64 ((aG t102 x22_2).f2)))=w24 at HO_20 BK106 HB ⊢
        replace HO_20:=aE (gU HO_20.out)
        replace BK106:=aE (aI BK106.out)
        replace HB:=aE (jK HB.out)
        have p107:0≤(((aG t102 x22_2).f0):Int):=bI
        have q107:((aG t102 x22_2).f0)<(l0.length:Int):=bI
        obtain ⟨ad107,e107,hx107_0,hx107_1⟩:=bW HR0.out ((aG t102 x22_2).f0) p107 q107
        have hw107_1:=hx107_1
        have hw107_0:=hx107_0
        cases e107
        replace hx107_0:=aY HB hx107_0
        replace hx107_1:=aY HB hx107_1
        replace p107:=eq_true p107
        replace q107:=eq_true q107
        have p108:0≤(((aG t102 x22_2).f1):Int):=bI
        have q108:((aG t102 x22_2).f1)<(l0.length:Int):=bI
        obtain ⟨ad108,e108,hx108_0,hx108_1⟩:=bW HR0.out ((aG t102 x22_2).f1) p108 q108
        have hw108_1:=hx108_1
        have hw108_0:=hx108_0
        obtain rfl:ad107=ad108:=(by injection e108)
        replace hx108_0:=aY HB hx108_0
        replace hx108_1:=aY HB hx108_1
        replace p108:=eq_true p108
        replace q108:=eq_true q108
        have p109:0≤(((aG t102 x22_2).f2):Int):=bI
        have q109:((aG t102 x22_2).f2)<(l0.length:Int):=bI
        obtain ⟨ad109,e109,hx109_0,hx109_1⟩:=bW HR0.out ((aG t102 x22_2).f2) p109 q109
        have hw109_1:=hx109_1
        have hw109_0:=hx109_0
        obtain rfl:ad107=ad109:=(by injection e109)
        replace hx109_0:=aY HB hx109_0
        replace hx109_1:=aY HB hx109_1
        replace p109:=eq_true p109
        replace q109:=eq_true q109
        refine dA (n:=17) (S:=fun w'=>w'.cell? ⟨gb106,0,none⟩=some (.int .i64 ((aG t102 x22_2).f0))∧w'.cell? ⟨gb106,1,none⟩=some (.int .i64 ((aG t102 x22_2).f1))∧w'.cell? ⟨gb106,2,none⟩=some (.int .i64 ((aG t102 x22_2).f2))∧w'.cell? (ad107.add ((((aG t102 x22_2).f0)).toNat*2))=some (.int .i64 ((aC l0 ((aG t102 x22_2).f0)).f0))∧w'.cell? ⟨(ad107.add ((((aG t102 x22_2).f0)).toNat*2)).block,(ad107.add ((((aG t102 x22_2).f0)).toNat*2)).off+1,none⟩=some (.int .i64 ((aC l0 ((aG t102 x22_2).f0)).f1))∧w'.cell? (ad107.add ((((aG t102 x22_2).f1)).toNat*2))=some (.int .i64 ((aC l0 ((aG t102 x22_2).f1)).f0))∧w'.cell? ⟨(ad107.add ((((aG t102 x22_2).f1)).toNat*2)).block,(ad107.add ((((aG t102 x22_2).f1)).toNat*2)).off+1,none⟩=some (.int .i64 ((aC l0 ((aG t102 x22_2).f1)).f1))∧w'.cell? (ad107.add ((((aG t102 x22_2).f2)).toNat*2))=some (.int .i64 ((aC l0 ((aG t102 x22_2).f2)).f0))∧w'.cell? ⟨(ad107.add ((((aG t102 x22_2).f2)).toNat*2)).block,(ad107.add ((((aG t102 x22_2).f2)).toNat*2)).off+1,none⟩=some (.int .i64 ((aC l0 ((aG t102 x22_2).f2)).f1))) (ds:=[]) (bm 17 0) (by kernel_rfl) rfl rfl ⟨aW BK106 0,aW BK106 1,aW BK106 2,(aY HB hw107_0),(aY HB hw107_1),(aY HB hw108_0),(aY HB hw108_1),(aY HB hw109_0),(aY HB hw109_1)⟩ (fun hHeld=>?_);refine bO oQ nV (fun HT_ HW_=>?_)
        generalize w24.drew=w25 at HO_20 BK106 HB hx107_0 hx107_1 hx108_0 hx108_1 hx109_0 hx109_1 hHeld ⊢
        refine bU ((0,0,26,1)::(0,1,27,3)::(0,5,31,35)::(0,6,32,99)::(0,10,36,1123)::(0,11,37,3171)::(2,2,28,3175)::(0,3,29,3183)::(2,4,30,3199)::(2,7,33,3327)::(0,8,34,3583)::(2,9,35,4095)::(2,12,38,8191)::(0,13,39,16383)::(2,14,40,32767)::[]) ?_
        iterate 15 (first|refine jT HT_ ?_|refine pZ HT_ HW_ hHeld ?_)
        refine aU ?_
        refine dQ (i:=15) (N:=some 41) (bm 17 65535) rfl rfl (bJ HT_.out (by kernel_rfl)) (by decide) (fun K hK=>?_)
        refine cN Tryz.func49 #[.agg #[.int .i64 ((aC l0 ((aG t102 x22_2).f0)).f0),.int .i64 ((aC l0 ((aG t102 x22_2).f0)).f1)],.agg #[.int .i64 ((aC l0 ((aG t102 x22_2).f1)).f0),.int .i64 ((aC l0 ((aG t102 x22_2).f1)).f1)],.agg #[.int .i64 ((aC l0 ((aG t102 x22_2).f2)).f0),.int .i64 ((aC l0 ((aG t102 x22_2).f2)).f1)]] ?_
        with_reducible refine (kG ((aC l0 ((aG t102 x22_2).f0)).f0) ((aC l0 ((aG t102 x22_2).f0)).f1) ((aC l0 ((aG t102 x22_2).f1)).f0) ((aC l0 ((aG t102 x22_2).f1)).f1) ((aC l0 ((aG t102 x22_2).f2)).f0) ((aC l0 ((aG t102 x22_2).f2)).f1) t110 _ A20.out).mono ?_
        rintro e w26 ⟨rfl,hb⟩
        refine ⟨_,rfl,?_⟩
        replace HO_20:=aE (Kd.R_below (bN HO_20) hb)
        replace BK106:=aE (bB BK106 hb)
        replace HB:=aE (aD (aX HB) hb)
        (try clear hb)
        (try clear hk)
        refine hK.out _ _ ⟨aW BK106 0,aW BK106 1,aW BK106 2,(aY HB hw107_0),(aY HB hw107_1),(aY HB hw108_0),(aY HB hw108_1),(aY HB hw109_0),(aY HB hw109_1)⟩ (fun hHeld=>?_)
        clear hK K
        refine gA ?_
        refine bU ((0,16,42,131071)::[]) ?_
        iterate 1 (first|refine jT HT_ ?_)
        refine aU ?_
        refine eN (cK HT_.out (by kernel_rfl)) ?_
        try go_wp2
        go_ret
        exact ⟨bP,aX HB⟩
       ·have c21b0:(t110==0)=false:=beq_eq_false_iff_ne.mpr c21
        have c21b1:(t110 != 0)=true:=bne_iff_ne.mpr c21
        have H':=aE H
        clear H
        obtain ⟨p105,q105,ad105,e105,hx105_0,hx105_1,hx105_2⟩:=jP (rR (Kd.R_reads' HO_20.out).2.2 x22_2)
        cases e105
        try go_wp2_with (first|((with_reducible refine aN (N:=4) rfl ?_);(try (refine fS (by rfl) ?_;dsimp only));refine bV (N:=4) #[.int .i64 0,.int .i64 0,.int .i64 0] 56 ?_;intro gb106 hg w27 hbox hb;replace HO_20:=aE (Kd.R_below (Kd.R_elderB (bN HO_20) gb106 (Nat.le_of_eq hg.symm)) hb);have BK106:=aE (hbox);have GW106:=aE ((dX HB hg));have GE106:=aE ((dX HB hg));replace HB:=aE (aD (aX HB) hb);clear hb hbox hg;have hcz28_0:=aW BK106 0;have hcz28_1:=aW BK106 1;have hcz28_2:=aW BK106 2;have hfz28_0:=aA BK106.out 0;have hfz28_1:=aA BK106.out 1;have hfz28_2:=aA BK106.out 2))
        replace HO_20:Aside0 (Kd.R FQ 56 (((w27.setCell ⟨gb106,0,none⟩ (.int .i64 ((aG t102 x22_2).f0))).setCell ⟨gb106,1,none⟩ (.int .i64 ((aG t102 x22_2).f1))).setCell ⟨gb106,2,none⟩ (.int .i64 ((aG t102 x22_2).f2))) w.heap.size (fun k_=>k_≠gb106) (.slice (some ad105) t102.length co10) t102):=⟨by (with_reducible repeat (first|apply kD|apply kE|apply gU));exact Kd.R_mono (Kd.R_far (p:=⟨gb106,2,none⟩) (Kd.R_far (p:=⟨gb106,1,none⟩) (Kd.R_far (p:=⟨gb106,0,none⟩) (Kd.R_mono HO_20.out (fun k_ hk=>(⟨hk,hk.2⟩:_∧k_≠gb106))) (fun _ hk=>hk.2) (.int .i64 ((aG t102 x22_2).f0))) (fun _ hk=>hk.2) (.int .i64 ((aG t102 x22_2).f1))) (fun _ hk=>hk.2) (.int .i64 ((aG t102 x22_2).f2))) (fun _ hk=>hk.1.2)⟩
        replace BK106:Aside0 ((((w27.setCell ⟨gb106,0,none⟩ (.int .i64 ((aG t102 x22_2).f0))).setCell ⟨gb106,1,none⟩ (.int .i64 ((aG t102 x22_2).f1))).setCell ⟨gb106,2,none⟩ (.int .i64 ((aG t102 x22_2).f2))).heap[gb106]? = some (.cells #[.int .i64 ((aG t102 x22_2).f0),.int .i64 ((aG t102 x22_2).f1),.int .i64 ((aG t102 x22_2).f2)] 56 (0,0))):=⟨jR BK106⟩
        replace HB:Aside0 (Below w.heap.size w (((w27.setCell ⟨gb106,0,none⟩ (.int .i64 ((aG t102 x22_2).f0))).setCell ⟨gb106,1,none⟩ (.int .i64 ((aG t102 x22_2).f1))).setCell ⟨gb106,2,none⟩ (.int .i64 ((aG t102 x22_2).f2)))):=⟨aX HB⟩
        generalize (((w27.setCell ⟨gb106,0,none⟩ (.int .i64 ((aG t102 x22_2).f0))).setCell ⟨gb106,1,none⟩ (.int .i64 ((aG t102 x22_2).f1))).setCell ⟨gb106,2,none⟩ (.int .i64 ((aG t102 x22_2).f2)))=w29 at HO_20 BK106 HB ⊢
        replace HO_20:=aE (gU HO_20.out)
        replace BK106:=aE (aI BK106.out)
        replace HB:=aE (jK HB.out)
        have p107:0≤(((aG t102 x22_2).f0):Int):=bI
        have q107:((aG t102 x22_2).f0)<(l0.length:Int):=bI
        obtain ⟨ad107,e107,hx107_0,hx107_1⟩:=bW HR0.out ((aG t102 x22_2).f0) p107 q107
        have hw107_1:=hx107_1
        have hw107_0:=hx107_0
        cases e107
        replace hx107_0:=aY HB hx107_0
        replace hx107_1:=aY HB hx107_1
        replace p107:=eq_true p107
        replace q107:=eq_true q107
        have p108:0≤(((aG t102 x22_2).f1):Int):=bI
        have q108:((aG t102 x22_2).f1)<(l0.length:Int):=bI
        obtain ⟨ad108,e108,hx108_0,hx108_1⟩:=bW HR0.out ((aG t102 x22_2).f1) p108 q108
        have hw108_1:=hx108_1
        have hw108_0:=hx108_0
        obtain rfl:ad107=ad108:=(by injection e108)
        replace hx108_0:=aY HB hx108_0
        replace hx108_1:=aY HB hx108_1
        replace p108:=eq_true p108
        replace q108:=eq_true q108
        have p109:0≤(((aG t102 x22_2).f2):Int):=bI
        have q109:((aG t102 x22_2).f2)<(l0.length:Int):=bI
        obtain ⟨ad109,e109,hx109_0,hx109_1⟩:=bW HR0.out ((aG t102 x22_2).f2) p109 q109
        have hw109_1:=hx109_1
        have hw109_0:=hx109_0
        obtain rfl:ad107=ad109:=(by injection e109)
        replace hx109_0:=aY HB hx109_0
        replace hx109_1:=aY HB hx109_1
        replace p109:=eq_true p109
        replace q109:=eq_true q109
        refine dA (n:=17) (S:=fun w'=>w'.cell? ⟨gb106,0,none⟩=some (.int .i64 ((aG t102 x22_2).f0))∧w'.cell? ⟨gb106,1,none⟩=some (.int .i64 ((aG t102 x22_2).f1))∧w'.cell? ⟨gb106,2,none⟩=some (.int .i64 ((aG t102 x22_2).f2))∧w'.cell? (ad107.add ((((aG t102 x22_2).f0)).toNat*2))=some (.int .i64 ((aC l0 ((aG t102 x22_2).f0)).f0))∧w'.cell? ⟨(ad107.add ((((aG t102 x22_2).f0)).toNat*2)).block,(ad107.add ((((aG t102 x22_2).f0)).toNat*2)).off+1,none⟩=some (.int .i64 ((aC l0 ((aG t102 x22_2).f0)).f1))∧w'.cell? (ad107.add ((((aG t102 x22_2).f1)).toNat*2))=some (.int .i64 ((aC l0 ((aG t102 x22_2).f1)).f0))∧w'.cell? ⟨(ad107.add ((((aG t102 x22_2).f1)).toNat*2)).block,(ad107.add ((((aG t102 x22_2).f1)).toNat*2)).off+1,none⟩=some (.int .i64 ((aC l0 ((aG t102 x22_2).f1)).f1))∧w'.cell? (ad107.add ((((aG t102 x22_2).f2)).toNat*2))=some (.int .i64 ((aC l0 ((aG t102 x22_2).f2)).f0))∧w'.cell? ⟨(ad107.add ((((aG t102 x22_2).f2)).toNat*2)).block,(ad107.add ((((aG t102 x22_2).f2)).toNat*2)).off+1,none⟩=some (.int .i64 ((aC l0 ((aG t102 x22_2).f2)).f1))) (ds:=[]) (bm 17 0) (by kernel_rfl) rfl rfl ⟨aW BK106 0,aW BK106 1,aW BK106 2,(aY HB hw107_0),(aY HB hw107_1),(aY HB hw108_0),(aY HB hw108_1),(aY HB hw109_0),(aY HB hw109_1)⟩ (fun hHeld=>?_);refine bO oQ nV (fun HT_ HW_=>?_)
        generalize w29.drew=w30 at HO_20 BK106 HB hx107_0 hx107_1 hx108_0 hx108_1 hx109_0 hx109_1 hHeld ⊢
        refine bU ((0,0,26,1)::(0,1,27,3)::(0,5,31,35)::(0,6,32,99)::(0,10,36,1123)::(0,11,37,3171)::(2,2,28,3175)::(0,3,29,3183)::(2,4,30,3199)::(2,7,33,3327)::(0,8,34,3583)::(2,9,35,4095)::(2,12,38,8191)::(0,13,39,16383)::(2,14,40,32767)::[]) ?_
        iterate 15 (first|refine jT HT_ ?_|refine pZ HT_ HW_ hHeld ?_)
        refine aU ?_
        refine dQ (i:=15) (N:=some 41) (bm 17 65535) rfl rfl (bJ HT_.out (by kernel_rfl)) (by decide) (fun K hK=>?_)
        refine cN Tryz.func49 #[.agg #[.int .i64 ((aC l0 ((aG t102 x22_2).f0)).f0),.int .i64 ((aC l0 ((aG t102 x22_2).f0)).f1)],.agg #[.int .i64 ((aC l0 ((aG t102 x22_2).f1)).f0),.int .i64 ((aC l0 ((aG t102 x22_2).f1)).f1)],.agg #[.int .i64 ((aC l0 ((aG t102 x22_2).f2)).f0),.int .i64 ((aC l0 ((aG t102 x22_2).f2)).f1)]] ?_
        with_reducible refine (kG ((aC l0 ((aG t102 x22_2).f0)).f0) ((aC l0 ((aG t102 x22_2).f0)).f1) ((aC l0 ((aG t102 x22_2).f1)).f0) ((aC l0 ((aG t102 x22_2).f1)).f1) ((aC l0 ((aG t102 x22_2).f2)).f0) ((aC l0 ((aG t102 x22_2).f2)).f1) t110 _ A20.out).mono ?_
        rintro e w31 ⟨rfl,hb⟩
        refine ⟨_,rfl,?_⟩
        replace HO_20:=aE (Kd.R_below (bN HO_20) hb)
        replace BK106:=aE (bB BK106 hb)
        replace HB:=aE (aD (aX HB) hb)
        (try clear hb)
        (try clear hk)
        refine hK.out _ _ ⟨aW BK106 0,aW BK106 1,aW BK106 2,(aY HB hw107_0),(aY HB hw107_1),(aY HB hw108_0),(aY HB hw108_1),(aY HB hw109_0),(aY HB hw109_1)⟩ (fun hHeld=>?_)
        clear hK K
        refine gA ?_
        refine bU ((0,16,42,131071)::[]) ?_
        iterate 1 (first|refine jT HT_ ?_)
        refine aU ?_
        refine eN (cK HT_.out (by kernel_rfl)) ?_
        try go_wp2
        go_roundg k2
        case measure=>have:=HJ1.out;have:=HK2.out;omega
        case rel=>exact ⟨(wrap64 (x22_2+1)),aH,H',⟨by have:=HJ1.out;have:=HK2.out;omega⟩,⟨by (with_reducible repeat (first|apply kD|apply kE|apply gU));exact Kd.R_mono HO_20.out (fun _ hk=>trivial)⟩,⟨aX HB⟩⟩
      ·obtain rfl:=Option.some.inj H
       go_wp2
       go_ret
       exact ⟨bP,aX HB⟩
/-! ### impl_chi_set: function 81 -/
theorem pP {P:Program} {ops:Array Oper} {o:Oper} {a:Act} {Q:Exit→Act→World→Prop} {W u0 w0:World} {Kc:Act→World→Prop} {g j:Nat} {e:TypeId} {cur:Array Value} (hN:o.dst=none) (hw:Region.wanted o (yielded ops a.tmps)=true) (t:TypeId) (p x:Operand) (ho:o.op=.store t p x) (u:Value)
  (haddr:a.eval p=.pointer (some ⟨g,j,none⟩)) (hx:a.eval x=u) (hu:u.cells.toList=[u]) (ht:(P.info? t).map (·.size)=some 1) (h1:u.oneCell'=true) (hh:W.heap[g]? = some (.cells cur e (0,0))) (hj:j<cur.size)
  (hB:Below u0.heap.size u0 W) (hg:u0.heap.size≤g) (hK:cM w0 W g none)
  (h:∀ W1:World,W1.heap[g]? = some (.cells (cur.setIfInBounds j u) e (0,0))→Below u0.heap.size u0 W1→cM w0 W1 g none→Kc a W1):if Region.wanted o (yielded ops a.tmps)=true then Oper.wp P o a W Kc Q else Kc (a.put none undef) W:=by
 have hrun:=xC (P:=P) (o:=j) t u [u] hh hu ht (by simp;omega) (by simp [h1])
 rw [if_pos hw]
 unfold Oper.wp execOp
 simp only [ho,haddr,hx,Sem.run_bind,Sem.run_pure,Result.andThen_ok,hrun]
 show Kc (a.put o.dst undef) _
 rw [hN]
 exact h _ (yL hh j u) (cE hB hg) (hK.set_ j u)
def lU (a b c:Int):Nat:=1+a.toNat*49+b.toNat*7+c.toNat
theorem rW {a b c:Int} (ha:0≤a∧a<7) (hb:0≤b∧b<7) (hc:0≤c∧c<7):lU a b c<344:=by unfold lU;omega
def ID (cur:Array Value) (i j k s m:Int):Array Value:=(((((cur.setIfInBounds (lU i j k) (.int .i64 s)).setIfInBounds (lU j k i) (.int .i64 s)).setIfInBounds (lU k i j) (.int .i64 s)).setIfInBounds (lU i k j) (.int .i64 m)).setIfInBounds (lU k j i) (.int .i64 m)).setIfInBounds (lU j i k) (.int .i64 m)
def XI:Bool×List (List Nat×List Nat):=(true,[([],[]),([],[]),([],[]),([],[]),([],[]),([],[]),([],[]),([],[]),([],[]),([],[]),([],[]),([],[]),([],[]),([],[]),([],[]),([0],[0]),([15],[15]),([16,1],[1,16]),([17,2],[2,17]),([18,3,0,1,2,3,12],[3,18]),([19,12,0,1,2,3,12],[12,19]),([4],[4]),([21],[21]),([22,5],[5,22]),([23,6],[6,23]),([24,7,0,1,2,3,4,5,6,7,12,13,15,16,17,18,19,20],[7,24]),([25,13,20,0,1,2,3,4,5,6,7,12,13,15,16,17,18,19,20],[13,25]),([8],[8]),([27],[27]),([28,9],[9,28]),([29,10],[10,29]),([30,11,0,1,2,3,4,5,6,7,8,9,10,11,12,13,14,15,16,17,18,19,20,21,22,23,24,25,26],[11,30]),([31,14,26,0,1,2,3,4,5,6,7,8,9,10,11,12,13,14,15,16,17,18,19,20,21,22,23,24,25,26],[14,31])])
theorem RL:iQ .any (iS Tryz.f81 0)=XI:=by kernel_rfl
def XJ:Bool×List (List Nat×List Nat):=(true,[([],[]),([],[]),([],[]),([],[]),([],[]),([],[]),([],[]),([],[]),([],[]),([],[]),([],[]),([],[]),([],[]),([12],[12]),([],[]),([14],[14]),([],[]),([16],[16]),([0],[0]),([18],[18]),([19,1],[1,19]),([20,2],[2,20]),([21,3,0,1,2,3,12,13],[3,21]),([22,13,0,1,2,3,12,13],[13,22]),([4],[4]),([24],[24]),([25,5],[5,25]),([26,6],[6,26]),([27,7,0,1,2,3,4,5,6,7,12,13,14,15,18,19,20,21,22,23],[7,27]),([28,15,23,0,1,2,3,4,5,6,7,12,13,14,15,18,19,20,21,22,23],[15,28]),([8],[8]),([30],[30]),([31,9],[9,31]),([32,10],[10,32]),([33,11,0,1,2,3,4,5,6,7,8,9,10,11,12,13,14,15,16,17,18,19,20,21,22,23,24,25,26,27,28,29],[11,33]),([34,17,29,0,1,2,3,4,5,6,7,8,9,10,11,12,13,14,15,16,17,18,19,20,21,22,23,24,25,26,27,28,29],[17,34])])
theorem RM:iQ .any (iS Tryz.f81 1)=XJ:=by kernel_rfl
set_option maxHeartbeats 4000000 in
set_option maxRecDepth 100000 in
theorem DW (u0 w:World) (g:Nat) (e:TypeId) (cur:Array Value) (i j k s:Int) (hh:w.heap[g]? = some (.cells cur e (0,0))) (hs:cur.size=344) (hB:Below u0.heap.size u0 w) (hg:u0.heap.size≤g) (hi:0≤i∧i<7) (hj:0≤j∧j<7) (hk:0≤k∧k<7) :
  Calls Tryz.prog 81 #[.pointer (some ⟨g,0,none⟩),.int .i64 i,.int .i64 j,.int .i64 k,.int .i64 s] w fun e' w'=>e'=.returned (.tuple #[])∧w'.heap[g]? = some (.cells (ID cur i j k s (wrap64 (-s))) e (0,0))∧Below u0.heap.size u0 w'∧cM w w' g none:=by
 have b1:=rW hi hj hk
 have b2:=rW hj hk hi
 have b3:=rW hk hi hj
 have b4:=rW hi hk hj
 have b5:=rW hk hj hi
 have b6:=rW hj hi hk
 have B:=aE (show lU i j k<cur.size∧lU j k i<cur.size∧lU k i j<cur.size∧lU i k j<cur.size∧lU k j i<cur.size∧lU j i k<cur.size by rw [hs];exact ⟨b1,b2,b3,b4,b5,b6⟩)
 have H0:=aE hh
 have HB:=aE hB
 have HG:=aE hg
 have HK:=aE (cM.refl w g none)
 clear b1 b2 b3 b4 b5 b6 hh hs hB hg
 have hix58:∀ (x:Int),0≤x∧x<7→∀ (W:World) (o:Nat),(Instr.indexAt 94 (.pointer (some ⟨g,o,none⟩)) (.int .i64 x)).run Tryz.prog W=.ok (.pointer (some ⟨g,o+x.toNat*49,none⟩)) W:=by
  intro x hx W o
  have hu:Tryz.prog.underlying 94=some (.array (Tryz.prog.arrayLen 94) (Tryz.prog.elem 94)):=by kernel_rfl
  have hl:Tryz.prog.arrayLen 94=7:=by kernel_rfl
  have he:Tryz.prog.elem 94=93:=by kernel_rfl
  have hz:(Tryz.prog.info? 93).map (·.size)=some 49:=by kernel_rfl
  obtain ⟨inf,hinf,hinfs⟩:=Option.map_eq_some_iff.1 hz
  rw [run_indexAt_array _ _ _ _ _ hu,hl,he]
  simp [sizeOf,typeInfo,hinf,hinfs,Result.andThen,hx.1,hx.2,Addr.add]
 have hix57:∀ (x:Int),0≤x∧x<7→∀ (W:World) (o:Nat),(Instr.indexAt 93 (.pointer (some ⟨g,o,none⟩)) (.int .i64 x)).run Tryz.prog W=.ok (.pointer (some ⟨g,o+x.toNat*7,none⟩)) W:=by
  intro x hx W o
  have hu:Tryz.prog.underlying 93=some (.array (Tryz.prog.arrayLen 93) (Tryz.prog.elem 93)):=by kernel_rfl
  have hl:Tryz.prog.arrayLen 93=7:=by kernel_rfl
  have he:Tryz.prog.elem 93=92:=by kernel_rfl
  have hz:(Tryz.prog.info? 92).map (·.size)=some 7:=by kernel_rfl
  obtain ⟨inf,hinf,hinfs⟩:=Option.map_eq_some_iff.1 hz
  rw [run_indexAt_array _ _ _ _ _ hu,hl,he]
  simp [sizeOf,typeInfo,hinf,hinfs,Result.andThen,hx.1,hx.2,Addr.add]
 have hix56:∀ (x:Int),0≤x∧x<7→∀ (W:World) (o:Nat),(Instr.indexAt 92 (.pointer (some ⟨g,o,none⟩)) (.int .i64 x)).run Tryz.prog W=.ok (.pointer (some ⟨g,o+x.toNat,none⟩)) W:=by
  intro x hx W o
  have hu:Tryz.prog.underlying 92=some (.array (Tryz.prog.arrayLen 92) (Tryz.prog.elem 92)):=by kernel_rfl
  have hl:Tryz.prog.arrayLen 92=7:=by kernel_rfl
  have he:Tryz.prog.elem 92=3:=by kernel_rfl
  have hz:(Tryz.prog.info? 3).map (·.size)=some 1:=by kernel_rfl
  obtain ⟨inf,hinf,hinfs⟩:=Option.map_eq_some_iff.1 hz
  rw [run_indexAt_array _ _ _ _ _ hu,hl,he]
  simp [sizeOf,typeInfo,hinf,hinfs,Result.andThen,hx.1,hx.2,Addr.add]
 have I58i:=hix58 i hi
 have I58j:=hix58 j hj
 have I58k:=hix58 k hk
 have I57i:=hix57 i hi
 have I57j:=hix57 j hj
 have I57k:=hix57 k hk
 have I56i:=hix56 i hi
 have I56j:=hix56 j hj
 have I56k:=hix56 k hk
 clear hix58 hix57 hix56
 go_enter Tryz.func81,Tryz.ntmps81
 go_wp2_with fail
 refine dA (n:=33) (S:=fun _=>True) (ds:=[]) (bm 33 0) (by kernel_rfl) rfl rfl trivial (fun hHeld=>?_);refine DS RL (fun HT_=>?_)
 have H0:=aE (show w.drew.heap[g]? = some (.cells cur e (0,0)) from H0.out)
 have HB:=aE (jK HB.out)
 have HK:=aE (show cM w w.drew g none from HK.out)
 generalize w.drew=w26 at H0 HB HK ⊢
 refine bU ((0,0,10,1)::(0,1,11,3)::(0,2,12,7)::(0,3,13,15)::(0,4,14,31)::(0,5,15,63)::(0,6,16,127)::(0,7,17,255)::(0,8,18,511)::(0,9,19,1023)::(0,10,20,2047)::(0,11,21,4095)::(0,12,22,8191)::(0,13,23,16383)::(0,14,24,32767)::(0,15,25,65535)::(0,16,26,131071)::(0,17,27,262143)::(0,18,28,524287)::(0,19,29,1048575)::(0,21,30,3145727)::(0,22,31,7340031)::(0,23,32,15728639)::(0,24,33,32505855)::(0,27,35,166723583)::(0,28,36,435159039)::(0,29,37,972029951)::(0,30,38,2045771775)::[]) ?_
 iterate 28 (refine mD ?_ ?_ rfl rfl (lN HT_.out (by kernel_rfl)) (fun _ _ _ h=>h) (Or.inl ⟨by rfl,?_⟩) ?_ ?_;rotate_left 2;(· intro w';go_simp;with_reducible rfl);(· simp only [Act.put,List.setIfInBounds_toArray,List.set_cons_zero,List.set_cons_succ,cC,dW];rfl))
 refine aU ?_
 refine dQ (i:=20) (N:=none) (bm 33 2046820351) rfl rfl (bJ HT_.out (by kernel_rfl)) (by decide) (fun K hK=>?_)
 refine pP (u0:=u0) (w0:=w) (g:=g) (j:=lU i j k) rfl (by rfl) 3 (.tmp 29) (.tmp 22) rfl (.int .i64 s) rfl (by first|rfl|kernel_rfl|(simp [Act.eval];done)|(show Value.int .i64 _=_;congr 1;decide)) rfl (by kernel_rfl) rfl H0.out (by have:=B.out;(try simp only [Array.size_setIfInBounds]);omega) HB.out HG.out HK.out (fun W1 hh hb hk_=>?_)
 have H1:=aE hh
 have m1_:=aE hb
 have m2_:=aE hk_
 clear HB HK hh hb hk_ H0
 have HB:=m1_
 have HK:=m2_
 clear m1_ m2_
 refine hK.out _ _ trivial (fun hHeld=>?_)
 clear hK K
 refine bU ((0,25,34,2080374783)::[]) ?_
 iterate 1 (refine mD ?_ ?_ rfl rfl (lN HT_.out (by kernel_rfl)) (fun _ _ _ h=>h) (Or.inl ⟨by rfl,?_⟩) ?_ ?_;rotate_left 2;(· intro w';go_simp;with_reducible rfl);(· simp only [Act.put,List.setIfInBounds_toArray,List.set_cons_zero,List.set_cons_succ,cC,dW];rfl))
 refine aU ?_
 refine dQ (i:=26) (N:=none) (bm 33 2147483647) rfl rfl (bJ HT_.out (by kernel_rfl)) (by decide) (fun K hK=>?_)
 refine pP (u0:=u0) (w0:=w) (g:=g) (j:=lU j k i) rfl (by rfl) 3 (.tmp 34) (.tmp 23) rfl (.int .i64 s) rfl (by first|rfl|kernel_rfl|(simp [Act.eval];done)|(show Value.int .i64 _=_;congr 1;decide)) rfl (by kernel_rfl) rfl H1.out (by have:=B.out;(try simp only [Array.size_setIfInBounds]);omega) HB.out HG.out HK.out (fun W1 hh hb hk_=>?_)
 have H2:=aE hh
 have m1_:=aE hb
 have m2_:=aE hk_
 clear HB HK hh hb hk_ H1
 have HB:=m1_
 have HK:=m2_
 clear m1_ m2_
 refine hK.out _ _ trivial (fun hHeld=>?_)
 clear hK K
 refine bU ((0,31,39,4294967295)::[]) ?_
 iterate 1 (refine mD ?_ ?_ rfl rfl (lN HT_.out (by kernel_rfl)) (fun _ _ _ h=>h) (Or.inl ⟨by rfl,?_⟩) ?_ ?_;rotate_left 2;(· intro w';go_simp;with_reducible rfl);(· simp only [Act.put,List.setIfInBounds_toArray,List.set_cons_zero,List.set_cons_succ,cC,dW];rfl))
 refine aU ?_
 refine dQ (i:=32) (N:=none) (bm 33 8589934591) rfl rfl (bJ HT_.out (by kernel_rfl)) (by decide) (fun K hK=>?_)
 refine pP (u0:=u0) (w0:=w) (g:=g) (j:=lU k i j) rfl (by rfl) 3 (.tmp 39) (.tmp 24) rfl (.int .i64 s) rfl (by first|rfl|kernel_rfl|(simp [Act.eval];done)|(show Value.int .i64 _=_;congr 1;decide)) rfl (by kernel_rfl) rfl H2.out (by have:=B.out;(try simp only [Array.size_setIfInBounds]);omega) HB.out HG.out HK.out (fun W1 hh hb hk_=>?_)
 have H3:=aE hh
 have m1_:=aE hb
 have m2_:=aE hk_
 clear HB HK hh hb hk_ H2
 have HB:=m1_
 have HK:=m2_
 clear m1_ m2_
 refine hK.out _ _ trivial (fun hHeld=>?_)
 clear hK K
 refine eN (cK HT_.out (by kernel_rfl)) ?_
 clear HT_ hHeld
 go_wp2_with fail
 refine dA (n:=36) (S:=fun _=>True) (ds:=[]) (bm 36 0) (by kernel_rfl) rfl rfl trivial (fun hHeld=>?_);refine DS RM (fun HT_=>?_)
 have H3:=aE (show W1.drew.heap[g]? = _ from H3.out)
 have HB:=aE (jK HB.out)
 have HK:=aE (show cM w W1.drew g none from HK.out)
 generalize W1.drew=w27 at H3 HB HK ⊢
 refine bU ((0,0,40,1)::(0,1,41,3)::(0,2,42,7)::(0,3,43,15)::(0,4,44,31)::(0,5,45,63)::(0,6,46,127)::(0,7,47,255)::(0,8,48,511)::(0,9,49,1023)::(0,10,50,2047)::(0,11,51,4095)::(0,12,52,8191)::(0,13,53,16383)::(0,14,54,32767)::(0,15,55,65535)::(0,16,56,131071)::(0,17,57,262143)::(0,18,58,524287)::(0,19,59,1048575)::(0,20,60,2097151)::(0,21,61,4194303)::(0,22,62,8388607)::(0,24,63,25165823)::(0,25,64,58720255)::(0,26,65,125829119)::(0,27,66,260046847)::(0,30,68,1333788671)::(0,31,69,3481272319)::(0,32,70,7776239615)::(0,33,71,16366174207)::[]) ?_
 iterate 31 (refine mD ?_ ?_ rfl rfl (lN HT_.out (by kernel_rfl)) (fun _ _ _ h=>h) (Or.inl ⟨by rfl,?_⟩) ?_ ?_;rotate_left 2;(· intro w';go_simp;with_reducible rfl);(· simp only [Act.put,List.setIfInBounds_toArray,List.set_cons_zero,List.set_cons_succ,cC,dW];rfl))
 refine aU ?_
 refine dQ (i:=23) (N:=none) (bm 36 16374562815) rfl rfl (bJ HT_.out (by kernel_rfl)) (by decide) (fun K hK=>?_)
 refine pP (u0:=u0) (w0:=w) (g:=g) (j:=lU i k j) rfl (by rfl) 3 (.tmp 62) (.tmp 53) rfl (.int .i64 (wrap64 (-s))) rfl (by first|rfl|kernel_rfl|(simp [Act.eval];done)|(show Value.int .i64 _=_;congr 1;decide)) rfl (by kernel_rfl) rfl H3.out (by have:=B.out;(try simp only [Array.size_setIfInBounds]);omega) HB.out HG.out HK.out (fun W1 hh hb hk_=>?_)
 have H4:=aE hh
 have m1_:=aE hb
 have m2_:=aE hk_
 clear HB HK hh hb hk_ H3
 have HB:=m1_
 have HK:=m2_
 clear m1_ m2_
 refine hK.out _ _ trivial (fun hHeld=>?_)
 clear hK K
 refine bU ((0,28,67,16642998271)::[]) ?_
 iterate 1 (refine mD ?_ ?_ rfl rfl (lN HT_.out (by kernel_rfl)) (fun _ _ _ h=>h) (Or.inl ⟨by rfl,?_⟩) ?_ ?_;rotate_left 2;(· intro w';go_simp;with_reducible rfl);(· simp only [Act.put,List.setIfInBounds_toArray,List.set_cons_zero,List.set_cons_succ,cC,dW];rfl))
 refine aU ?_
 refine dQ (i:=29) (N:=none) (bm 36 17179869183) rfl rfl (bJ HT_.out (by kernel_rfl)) (by decide) (fun K hK=>?_)
 refine pP (u0:=u0) (w0:=w) (g:=g) (j:=lU k j i) rfl (by rfl) 3 (.tmp 67) (.tmp 55) rfl (.int .i64 (wrap64 (-s))) rfl (by first|rfl|kernel_rfl|(simp [Act.eval];done)|(show Value.int .i64 _=_;congr 1;decide)) rfl (by kernel_rfl) rfl H4.out (by have:=B.out;(try simp only [Array.size_setIfInBounds]);omega) HB.out HG.out HK.out (fun W1 hh hb hk_=>?_)
 have H5:=aE hh
 have m1_:=aE hb
 have m2_:=aE hk_
 clear HB HK hh hb hk_ H4
 have HB:=m1_
 have HK:=m2_
 clear m1_ m2_
 refine hK.out _ _ trivial (fun hHeld=>?_)
 clear hK K
 refine bU ((0,34,72,34359738367)::[]) ?_
 iterate 1 (refine mD ?_ ?_ rfl rfl (lN HT_.out (by kernel_rfl)) (fun _ _ _ h=>h) (Or.inl ⟨by rfl,?_⟩) ?_ ?_;rotate_left 2;(· intro w';go_simp;with_reducible rfl);(· simp only [Act.put,List.setIfInBounds_toArray,List.set_cons_zero,List.set_cons_succ,cC,dW];rfl))
 refine aU ?_
 refine dQ (i:=35) (N:=none) (bm 36 68719476735) rfl rfl (bJ HT_.out (by kernel_rfl)) (by decide) (fun K hK=>?_)
 refine pP (u0:=u0) (w0:=w) (g:=g) (j:=lU j i k) rfl (by rfl) 3 (.tmp 72) (.tmp 57) rfl (.int .i64 (wrap64 (-s))) rfl (by first|rfl|kernel_rfl|(simp [Act.eval];done)|(show Value.int .i64 _=_;congr 1;decide)) rfl (by kernel_rfl) rfl H5.out (by have:=B.out;(try simp only [Array.size_setIfInBounds]);omega) HB.out HG.out HK.out (fun W1 hh hb hk_=>?_)
 have H6:=aE hh
 have m1_:=aE hb
 have m2_:=aE hk_
 clear HB HK hh hb hk_ H5
 have HB:=m1_
 have HK:=m2_
 clear m1_ m2_
 refine hK.out _ _ trivial (fun hHeld=>?_)
 clear hK K
 refine eN (cK HT_.out (by kernel_rfl)) ?_
 clear HT_ hHeld
 go_wp2
 first|go_end0|go_ret|go_ret2
 exact ⟨rfl,H6.out,HB.out,HK.out⟩
theorem yY (g:Nat) (x:Int) (hx:0≤x∧x<7) (W:World) (o:Nat):(Instr.indexAt 94 (.pointer (some ⟨g,o,none⟩)) (.int .i64 x)).run Tryz.prog W=.ok (.pointer (some ⟨g,o+x.toNat*49,none⟩)) W:=by
 have hu:Tryz.prog.underlying 94=some (.array (Tryz.prog.arrayLen 94) (Tryz.prog.elem 94)):=by kernel_rfl
 have hl:Tryz.prog.arrayLen 94=7:=by kernel_rfl
 have he:Tryz.prog.elem 94=93:=by kernel_rfl
 have hz:(Tryz.prog.info? 93).map (·.size)=some 49:=by kernel_rfl
 obtain ⟨inf,hinf,hinfs⟩:=Option.map_eq_some_iff.1 hz
 rw [run_indexAt_array _ _ _ _ _ hu,hl,he]
 simp [sizeOf,typeInfo,hinf,hinfs,Result.andThen,hx.1,hx.2,Addr.add]
theorem yZ (g:Nat) (x:Int) (hx:0≤x∧x<7) (W:World) (o:Nat):(Instr.indexAt 93 (.pointer (some ⟨g,o,none⟩)) (.int .i64 x)).run Tryz.prog W=.ok (.pointer (some ⟨g,o+x.toNat*7,none⟩)) W:=by
 have hu:Tryz.prog.underlying 93=some (.array (Tryz.prog.arrayLen 93) (Tryz.prog.elem 93)):=by kernel_rfl
 have hl:Tryz.prog.arrayLen 93=7:=by kernel_rfl
 have he:Tryz.prog.elem 93=92:=by kernel_rfl
 have hz:(Tryz.prog.info? 92).map (·.size)=some 7:=by kernel_rfl
 obtain ⟨inf,hinf,hinfs⟩:=Option.map_eq_some_iff.1 hz
 rw [run_indexAt_array _ _ _ _ _ hu,hl,he]
 simp [sizeOf,typeInfo,hinf,hinfs,Result.andThen,hx.1,hx.2,Addr.add]
theorem yH (g:Nat) (x:Int) (hx:0≤x∧x<7) (W:World) (o:Nat):(Instr.indexAt 92 (.pointer (some ⟨g,o,none⟩)) (.int .i64 x)).run Tryz.prog W=.ok (.pointer (some ⟨g,o+x.toNat,none⟩)) W:=by
 have hu:Tryz.prog.underlying 92=some (.array (Tryz.prog.arrayLen 92) (Tryz.prog.elem 92)):=by kernel_rfl
 have hl:Tryz.prog.arrayLen 92=7:=by kernel_rfl
 have he:Tryz.prog.elem 92=3:=by kernel_rfl
 have hz:(Tryz.prog.info? 3).map (·.size)=some 1:=by kernel_rfl
 obtain ⟨inf,hinf,hinfs⟩:=Option.map_eq_some_iff.1 hz
 rw [run_indexAt_array _ _ _ _ _ hu,hl,he]
 simp [sizeOf,typeInfo,hinf,hinfs,Result.andThen,hx.1,hx.2,Addr.add]
/-! a table of signs as a function -/
def RN (T:Nat→Int) (p:Nat) (v:Int):Nat→Int:=fun m=>if m=p then v else T m
theorem nL (n:Int) (T:Nat→Int):(qT n T).size=344:=by simp [qT]
theorem sZ (n:Int) (T:Nat→Int) (p:Nat) (h:p<343):(qT n T)[1+p]? = some (.int .i64 (T p)):=by
 unfold qT
 rw [Array.getElem?_append_right (by simp)]
 simp [h]
theorem vH (n:Int) (T:Nat→Int):(qT n T)[0]? = some (.int .i64 n):=by
 unfold qT
 rw [Array.getElem?_append_left (by simp)]
 rfl
theorem rX (n:Int) (T:Nat→Int) (p:Nat) (v:Int) (h:p<343):(qT n T).setIfInBounds (1+p) (.int .i64 v)=qT n (RN T p v):=by
 apply Array.ext_getElem?
 intro q
 rw [Array.getElem?_setIfInBounds]
 by_cases hq:1+p=q
 ·subst hq
  rw [if_pos rfl,if_pos (by rw [nL];omega),sZ _ _ _ h]
  simp [RN]
 ·rw [if_neg hq]
  by_cases h0:q=0
  ·subst h0;rw [vH,vH]
  ·obtain ⟨m,rfl⟩:∃ m,q=1+m:=⟨q-1,by omega⟩
   by_cases hm:m<343
   ·rw [sZ _ _ _ hm,sZ _ _ _ hm]
    unfold RN
    rw [if_neg (by omega)]
   ·rw [Array.getElem?_eq_none (by rw [nL];omega),Array.getElem?_eq_none (by rw [nL];omega)]
def nB (a b c:Int):Nat:=a.toNat*49+b.toNat*7+c.toNat
theorem uH {a b c:Int} (ha:0≤a∧a<7) (hb:0≤b∧b<7) (hc:0≤c∧c<7):nB a b c<343:=by unfold nB;omega
theorem MD (a b c:Int):lU a b c=1+nB a b c:=by unfold lU nB;omega
def IE (T:Nat→Int) (i j k s:Int):Nat→Int:=RN (RN (RN (RN (RN (RN T (nB i j k) s) (nB j k i) s) (nB k i j) s) (nB i k j) (wrap64 (-s))) (nB k j i) (wrap64 (-s))) (nB j i k) (wrap64 (-s))
theorem OV (n:Int) (T:Nat→Int) (i j k s:Int) (hi:0≤i∧i<7) (hj:0≤j∧j<7) (hk:0≤k∧k<7):ID (qT n T) i j k s (wrap64 (-s))=qT n (IE T i j k s):=by
 unfold ID IE
 simp only [MD]
 rw [rX _ _ _ _ (uH hi hj hk),rX _ _ _ _ (uH hj hk hi),rX _ _ _ _ (uH hk hi hj),rX _ _ _ _ (uH hi hk hj),rX _ _ _ _ (uH hk hj hi),rX _ _ _ _ (uH hj hi hk)]
theorem qA (u0 w:World) (g:Nat) (n:Int) (T:Nat→Int) (i j k s:Int) (hI:cS u0 w g n T) (hB:Below u0.heap.size u0 w) (hi:0≤i∧i<7) (hj:0≤j∧j<7) (hk:0≤k∧k<7) :
  Calls Tryz.prog 81 #[.pointer (some ⟨g,0,none⟩),.int .i64 i,.int .i64 j,.int .i64 k,.int .i64 s] w fun e' w'=>e'=.returned (.tuple #[])∧cS u0 w' g n (IE T i j k s)∧Below u0.heap.size u0 w'∧cM w w' g none:=by
 refine (DW u0 w g _ (qT n T) i j k s hI.1 (nL n T) hB hI.2 hi hj hk).mono ?_
 rintro e' w' ⟨he,hh,hb,hk'⟩
 exact ⟨he,⟨by rw [← OV n T i j k s hi hj hk];exact hh,hI.2⟩,hb,hk'⟩
theorem NK {w:World} {w0:World} {g:Nat} {n:Int} {T:Nat→Int} (hI:cS w0 w g n T):∀ a b c:Int,0≤a∧a<7→0≤b∧b<7→0≤c∧c<7→w.cell? ⟨g,1+a.toNat*49+b.toNat*7+c.toNat,none⟩=some (.int .i64 (T (a.toNat*49+b.toNat*7+c.toNat))):=by
 intro a b c ha hb hc
 have h:=sZ n T (nB a b c) (uH ha hb hc)
 rw [← MD] at h
 exact (bK hI.1 _).trans h
end Go.Proofs.YteaagaekdkolnaaGreat.P

