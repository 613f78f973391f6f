/- A part of the proof of FnGrid: printed contracts and plain laws, joined by a program of this session. -/
import Derived.Test.YteaagaekdkolnaaGreatZFnGrid7
import Derived.Deep.Slices
import Derived.ChangeOld
import Derived.Carry
namespace Go.Proofs.YteaagaekdkolnaaGreat.Pure
open Go.RowKit Go.Proofs.YteaagaekdkolnaaGreat.P Go.Proofs.YteaagaekdkolnaaGreatW.PrintWords Go.Proofs.YteaagaekdkolnaaGreatW.PrintLast Go.Proofs.YteaagaekdkolnaaGreat.Com
set_option linter.unusedSimpArgs false
set_option linter.unusedVariables false
set_option maxRecDepth 100000
theorem WW:∀ a b c d e f g:Bool,spec_l6List.f 10 (ED [a,b,c,d,e,f,g] 0 0)=some (wH [a,b,c,d,e,f,g] 0):=by decide +kernel
theorem VI (L:List Bool) (h:L.length≤7):spec_l6List.f 10 (ED L 0 0)=some (wH L 0):=by
 obtain ⟨a,b,c,d,e,f,g,hp⟩:=SE (VP L) (by unfold VP;simp;omega)
 have h1:=KK L (7-L.length) 0 0
 have h2:=KL L (7-L.length) 0
 rw [← h1,← h2,show L++List.replicate (7-L.length) true=_ from hp]
 exact WW a b c d e f g
theorem CJ (a b c d:Int):tU a b c d=tU c d a b:=by
 unfold tU
 by_cases h1:(kX a 1000&&kX b 1000)=true
 ·by_cases h2:(kX c 1000&&kX d 1000)=true
  ·rw [if_pos h1,if_pos h2,if_pos h2,if_pos h1,← Int.gcd_neg,← Int.neg_gcd,Int.neg_sub,Int.neg_sub]
  ·rw [if_pos h1,if_neg h2,if_neg h2]
 ·by_cases h2:(kX c 1000&&kX d 1000)=true
  ·rw [if_neg h1,if_pos h2,if_neg h1]
  ·rw [if_neg h1,if_neg h2]
section
variable {l : PL} {t : Nat} {I : Int} (T : Told l t I)
include T
theorem WX:(gV l).length=t:=by
 obtain ⟨s,h0,h1,hc,hj,hE⟩:=KS T.pts
 have t3:=T.t3
 by_cases e:s=t
 ·rw [hE,e]
 ·rcases Nat.lt_or_ge s t with h|h
  ·exact absurd hc (T.hj s h0 h)
  ·exact absurd T.hc (hj t (by omega) (by omega))
theorem LQ:Ev (fun k=>spec_HullSize.f k (l.length:Int) (sgText l.length (sg l))) (t:Int):=by
 have hl:=T.pts.len
 obtain ⟨f1,f2⟩:=BJ ⟨l.length,by omega⟩
 have f2':wrap64 ((kS .i64 1 (IntKind.u64.wrap (l.length:Int)))-1)=dY l.length:=f2
 refine Ev.bind (tR hl T.pts.ord) (bG rfl (bG f1 ?_))
 simp only [f2']
 refine Ev.bind (AC hl T.pts.chi) (Ev.bind (yM (fun k=>spec_l6List.mono _ k) (VI _ (by rw [List.length_map,zU];omega))) ?_)
 rw [GD]
 have e:=WX T
 unfold gV at e
 rw [e]
 exact bL _
theorem JE {i:Nat} (hi:i<l.length):Ev (fun k=>spec_IsExtreme.f k (l.length:Int) (sgText l.length (sg l)) (i:Int)) (!xN l.length (sg l) (i:Int)):=by
 have hl:=T.pts.len
 obtain ⟨f1,f2⟩:=BJ ⟨l.length,by omega⟩
 have f2':wrap64 ((kS .i64 1 (IntKind.u64.wrap (l.length:Int)))-1)=dY l.length:=f2
 refine Ev.bind (tR hl T.pts.ord) (bG rfl (iM (DD _ _ _) (bG ?_ (bG f1 ?_))))
 ·rw [w64 (by omega) (by omega)]
  exact decide_eq_true (by omega)
 ·simp only [f2']
  exact Ev.bind (NW hl T.pts.chi ⟨by omega,by omega⟩) (bL _)
theorem QM (x y:Int):Ev (fun k=>impl_IsGridInside.f k l x y) ((kX x 1000&&kX y 1000)&&rV (fN l t) x y):=by
 have t3:=T.t3
 have t7:=T.t7
 exact Ev.bind T.iAP (bG rfl (Ev.bind T.iH (vV (fN l t) (by rw [gT];omega) (by rw [gT];omega) (GT T.pts t) x y)))
theorem TQ {i:Nat} (hi:i<l.length):(((kX (pX l i) 1000&&kX (pY l i) 1000)&&rV (fN l t) (pX l i) (pY l i))==(!xN l.length (sg l) (i:Int)))=false:=by
 have f:=T.pts.fit (i:Int) (by omega) (by omega)
 simp only [iV,Bool.and_eq_true,jJ] at f
 have hx:kX (pX l i) 1000=true:=by rw [jJ];unfold pX;omega
 have hy:kX (pY l i) 1000=true:=by rw [jJ];unfold pY;omega
 have hI:=ER T.pts T.t3 T.t7 T.hc hx hy
 rw [hx,hy,Bool.and_self,Bool.true_and]
 have on_no:∀ k,k<t→Hul.it l.length (mC l) (dL l) k=i→¬ Hul.inP (cP l) (t-1) (pX l i,pY l i):=by
  intro k hk e hin
  have h1:=(IU T.t3 T.hc _).1 hin k hk
  have e2:(pX l i,pY l i)=cP l k:=by unfold cP;rw [e];rfl
  rw [e2,Hul.ar_self2] at h1
  omega
 have he:=(jV T.pts).1
 rcases LM T hi with ⟨k,hk,e⟩|hin
 ·have a:rV (fN l t) (pX l i) (pY l i)=false:=by
   rw [Bool.eq_false_iff]
   exact fun h=>on_no k hk e (hI.1 h)
  have b:xN l.length (sg l) (i:Int)=false:=(pR T.pts hi).2 (by rw [← e];exact Hul.it_ext T.pts.gen he k)
  rw [a,b]
  rfl
 ·have a:rV (fN l t) (pX l i) (pY l i)=true:=hI.2 hin
  have b:xN l.length (sg l) (i:Int)=true:=by
   cases hh:xN l.length (sg l) (i:Int) with
   | true=>rfl
   | false =>
    exfalso
    have hx:=(pR T.pts hi).1 hh
    have hc:=T.hc
    have hj:=T.hj
    unfold eT at hc hj
    have z0:Hul.it l.length (mC l) (dL l) 0=dL l:=rfl
    have zt:Hul.it l.length (mC l) (dL l) t=dL l:=by omega
    obtain ⟨k,hk,e⟩:=Hul.it_all T.pts.gen he (show 0<t by have:=T.t3;omega) zt (fun j a b e=>hj j a b (by rw [e];rfl)) hx
    exact on_no k hk e hin
  rw [a,b]
  rfl
theorem WY:(t:Int)≤Hul.rim (cP l) t:=by
 have key : ∀ m : Nat, m ≤ t → (m : Int) ≤ Hul.rim (cP l) m := by
  intro m
  induction m with
  | zero=>intro _;show ((0:Nat):Int)≤0;omega
  | succ m ih =>
   intro hm
   have i:=ih (by omega)
   have hne:cP l m≠cP l (m+1):=by
    have n:=Hul.it_next T.pts.gen (jV T.pts).1 m
    have h1:=(lS T.pts m).1
    intro e
    have h7:=T.pts.len
    obtain ⟨k,hk,k0,k1⟩:∃ k,k<l.length∧k≠Hul.it l.length (mC l) (dL l) m∧k≠Hul.it l.length (mC l) (dL l) (m+1):=by
     by_cases a0:(0≠Hul.it l.length (mC l) (dL l) m∧0≠Hul.it l.length (mC l) (dL l) (m+1))
     ·exact ⟨0,by omega,a0.1,a0.2⟩
     ·by_cases a1:(1≠Hul.it l.length (mC l) (dL l) m∧1≠Hul.it l.length (mC l) (dL l) (m+1))
      ·exact ⟨1,by omega,a1.1,a1.2⟩
      ·exact ⟨2,by omega,by omega,by omega⟩
    have p:=n.2.2 k hk k0 k1
    have e':mC l (Hul.it l.length (mC l) (dL l) m)=mC l (Hul.it l.length (mC l) (dL l) (m+1)):=e
    rw [e'] at p
    have z:Hul.ar (mC l (Hul.it l.length (mC l) (dL l) (m+1))) (mC l (Hul.it l.length (mC l) (dL l) (m+1))) (mC l k)=0:=by unfold Hul.ar;simp
    omega
   have g:1≤Hul.gd (cP l m) (cP l (m+1)):=by
    unfold Hul.gd
    have:Int.gcd ((cP l (m+1)).1-(cP l m).1) ((cP l (m+1)).2-(cP l m).2)≠0:=by
     rw [Ne,Int.gcd_eq_zero_iff]
     rintro ⟨a,b⟩
     exact hne (Prod.ext (by omega) (by omega))
    omega
   show ((m+1:Nat):Int)≤Hul.rim (cP l) m+Hul.gd (cP l m) (cP l (m+1))
   omega
 exact key t (Nat.le_refl t)
theorem TR (d:Nat):∀ i:Nat,i+d=l.length→Ev (fun k=>iL k l I (Hul.rim (cP l) t) (l.length:Int) (i:Int) (l.length:Int) (sgText l.length (sg l))) true:=by
 have hl:=T.pts.len
 have bA:=T.sA
 have bE:=T.sE
 have t7:=T.t7
 have p:=T.pick
 have rg:=WY T
 induction d with
 | zero =>
  intro i hi
  refine aQ (f:=fun k=>(spec_HullArea.f k l).bind fun t153=>(if (wrap64 ((wrap64 ((wrap64 (2*I))+(Hul.rim (cP l) t)))-2))=t153 then ((spec_HullSize.f k (l.length:Int) (sgText l.length (sg l))).bind fun t154=>(some (decide (Hul.rim (cP l) t ≥ t154)))) else (some false))) (fun k=>?_) ?_
  ·simp only [iL]
   rw [if_neg (by omega)]
  ·refine Ev.bind (OB T) (bG ?_ (Ev.bind (LQ T) ?_))
   ·rw [w64 (x:=2*I) (by omega) (by omega),w64 (x:=2*I+Hul.rim (cP l) t) (by omega) (by omega),w64 (by omega) (by omega)]
    omega
   ·rw [decide_eq_true (show Hul.rim (cP l) t ≥ (t:Int) from rg)]
    exact bL _
 | succ d ih =>
  intro i hi
  refine aQ (f:=fun k=>(impl_IsGridInside.f k l (pX l i) (pY l i)).bind fun t156=>((spec_IsExtreme.f k (l.length:Int) (sgText l.length (sg l)) (i:Int)).bind fun t157=>(if (t156==t157)=true then (some false) else (iL k l I (Hul.rim (cP l) t) (l.length:Int) ((i+1:Nat):Int) (l.length:Int) (sgText l.length (sg l)))))) (fun k=>?_) ?_
  ·simp only [iL]
   rw [if_pos (by omega),if_pos (by omega),if_pos (by omega),w64 (x:=(i:Int)+1) (by omega) (by omega)]
   rfl
  ·refine Ev.bind (QM T _ _) (Ev.bind (JE T (by omega)) ?_)
   rw [TQ T (by omega)]
   exact dK (by decide) (ih (i+1) (by omega))
theorem TS (a b c d:Int):Ev (fun k=>cY k l I (Hul.rim (cP l) t) (jH l) (mY l) false a b c d) true:=by
 have hl:=T.pts.len
 have rp:=OD T
 have r35:=CI l
 have rl:=VF T.pts.b
 have tc:=LL ⟨l.length,by omega⟩ hl.1
 have m0:=TL T (kH (jH l) 0 0 rp)
 have m1:=TL T (kH (jH l) ((jH l).length-1) 0 (by omega))
 have bA:=T.sA
 have t7:=T.t7
 have cnt:((jH l).length:Int)=(wrap64 (Int.tdiv (wrap64 ((wrap64 ((l.length:Int)*(wrap64 ((l.length:Int)-1))))*(wrap64 ((l.length:Int)-2)))) 6)):=by
  rw [rl]
  have z:l.length=3∨l.length=4∨l.length=5∨l.length=6∨l.length=7:=by omega
  rcases z with z|z|z|z|z <;> rw [z] <;> decide +kernel
 have tl:Ev (fun k=>fQ k l I (Hul.rim (cP l) t) (l.length:Int) false) true:=by
  refine aQ (f:=fun k=>(spec_SignsOf.f k l).bind fun bt149=>(iL k l I (Hul.rim (cP l) t) (l.length:Int) 0 bt149.1 bt149.2.1)) (fun k=>?_) (Ev.bind (oK l T.pts) (TR T l.length 0 (by omega)))
  simp only [fQ]
  rw [if_neg (by decide)]
 refine aQ (fun k=>by simp only [cY];rw [if_neg (by decide)]) ?_
 refine Ev.bind (mM a b c d) (Ev.bind (mM c d a b) (bG (CJ a b c d) (Ev.bind T.sAP (bG rfl (bG cnt (bG (by omega) (dK (by show ¬ (jH l).getD 0 0<1;omega) (bG (by rw [QK T];rfl) (Ev.bind (OB T) ?_)))))))))
 rw [w64 (x:=((jH l).length:Int)-1) (by omega) (by omega)]
 refine bG (by omega) (bG (by omega) ?_)
 have e:decide (Hul.shoe (cP l) t<rd (jH l) (((jH l).length:Int)-1))=false:=by
  refine decide_eq_false ?_
  unfold rd
  rw [show (((jH l).length:Int)-1).toNat=(jH l).length-1 by omega]
  omega
 rw [e]
 exact tl
end
theorem TT {l:PL} (hl:l.length≤7) (hb:fM l=false) (a b c d:Int):Ev (fun k=>cY k l (-1) (-1) (jH l) (mY l) false a b c d) true:=by
 have hr:jH l=[]:=by unfold jH;rw [hb,if_neg (by decide)]
 refine aQ (fun k=>by simp only [cY];rw [if_neg (by decide)]) ?_
 refine Ev.bind (mM a b c d) (Ev.bind (mM c d a b) (bG (CJ a b c d) (Ev.bind (by have:=eK l (by omega);rw [hb] at this;exact this) (dK (by decide) (bG trivial (bG trivial ?_))))))
 rw [hr]
 exact bL _
theorem VJ {l:PL} (hl:l.length≤7):∃ u v,Ev (fun k=>spec_InnerPoints.f k l) u∧Ev (fun k=>impl_InnerPoints.f k l) u∧Ev (fun k=>spec_EdgePoints.f k l) v∧Ev (fun k=>impl_EdgePoints.f k l) v∧∀ a b c d,Ev (fun k=>cY k l u v (jH l) (mY l) false a b c d) true:=by
 cases hb:fM l with
 | false =>
  have sA:=eK l (by omega)
  have iA:=gY l (by omega)
  rw [hb] at sA iA
  exact ⟨-1,-1,Ev.bind sA (dK (by decide) (bL _)),Ev.bind iA (dK (by decide) (bL _)),Ev.bind sA (dK (by decide) (bL _)),Ev.bind iA (dK (by decide) (bL _)),TT hl hb⟩
 | true =>
  obtain ⟨t,I,T⟩:=VA hb
  exact ⟨I,Hul.rim (cP l) t,T.sI,T.iI,VB T,T.iE,TS T⟩
theorem FnGrid:laws_FnGrid.Pure:=by
 rintro x ⟨hm,_⟩
 apply OK
 simp only [laws_FnGrid.f,laws_big.f,Option.bind_some]
 by_cases hx:(x.length:Int) > 1048576
 ·exact bG (decide_eq_true hx) (bL true)
 refine dK (by simpa using hx) ?_
 have hx':x.length≤1099511627776:=by omega
 obtain ⟨l,hD,l3,l7⟩:=JD x hx'
 obtain ⟨a,b,c,d,hE⟩:=FJ x hx'
 obtain ⟨m,p,q,hG,m3,m7⟩:=LO x hx'
 obtain ⟨u,v,sI,iI,sE,iE,fin⟩:=VJ l7
 obtain ⟨w,g1,g2⟩:=LP m (by omega) p q
 have r35:=CI l
 have s3:=FI l
 refine Ev.bind hD (Ev.bind iI (Ev.bind iE (Ev.bind hE (Ev.bind hG (Ev.bind (xA l (by omega)) (Ev.bind (BU l (by omega)) (Ev.bind sI (bG rfl (Ev.bind sE (bG rfl ?_))))))))))
 refine Ev.bind (mM a b c d) (Ev.bind (CG a b c d) (bG rfl (Ev.bind g2 (Ev.bind g1 (dK (by cases w <;> decide) ?_)))))
 refine Ev.bind (pE l (by omega)) (Ev.bind (xO _ (by omega)) (bG rfl (Ev.bind (BT l (by omega)) (Ev.bind (xO _ (by omega)) (bG rfl (Ev.bind (EV l (by omega)) (Ev.bind (EW l (by omega)) ?_)))))))
 have e:(!((rQ l).1==(rQ l).1)||(!((rQ l).2==(rQ l).2)))=false:=by simp
 rw [e]
 exact fin a b c d
end Go.Proofs.YteaagaekdkolnaaGreat.Pure

namespace Go.Proofs.YteaagaekdkolnaaGreat.Opn
open Go Go.Deep Go.ChangeShapes Go.WideShapes Go.Proofs.YteaagaekdkolnaaGreatW.PrintWords
section
variable {H : Type} (enc : TypeId × Value → H) (P : Program) (w : World) (base : Nat) (spare : Nat → Bool) (held : Bool)
def TU {α:Type} (d:Kd α) (t:TypeId) (Q:α→Prop):Prop :=
 ∀ (fuel:Nat) (cs:List Value) (x:DataW H×List MemPlace),DataW.trod enc P w base spare held fuel t cs=some x→∃ a,d.K w a cs∧Q a
end
section
variable {H : Type} {enc : TypeId × Value → H} {P : Program} {w : World} {base : Nat} {spare : Nat → Bool} {held : Bool}
theorem QN {t:TypeId} {k:IntKind} (ht:P.underlying t=some (.int k)):TU enc P w base spare held (Kd.int k) t (fun n=>(Lit.int k n).wf=true):=fun fuel cs x h=>by
 obtain ⟨n,rfl,_,hw⟩:=DataW.trod_int ht h
 exact ⟨n,rfl,hw⟩
theorem LR {α:Type} {d:Kd α} {t e:TypeId} {Q:α→Prop} (ht:P.underlying t=some (.slice e)) (hc:P.cellsOf e=d.sz) (h:TU enc P w base spare held d e Q) :
  TU enc P w base spare held (Kd.slice e d) t (fun xs=>xs.length≤maxLen∧∀ x ∈ xs,Q x):=fun fuel cs x hx=>by
 rcases open_slice ht hx with ⟨rfl,_⟩|⟨a,len,cap,m,n,D,Pl,rfl,_,hl,hm,hmm,_,hel⟩
 ·exact ⟨[],⟨none,0,rfl,Nat.le_refl _,⟨rfl,by simp,fun h=>by simp at h⟩⟩,by simp⟩
 have hlm:len≤m:=by rw [hmm];split <;> omega
 have hi:∀ i:Fin len,∃ y:α,(∃ cs',w.cells? base (a.add (i.val*P.cellsOf e)) (P.cellsOf e)=some cs'∧d.K w y cs')∧Q y:=fun i=>by
  obtain ⟨cs',h1,h2⟩:=hel i.val (by omega)
  obtain ⟨y,hK,hQ⟩:=h _ _ _ h2
  exact ⟨y,⟨cs',h1,hK⟩,hQ⟩
 let f:Fin len→α:=fun i=>Classical.choose (hi i)
 have hfs:∀ i:Fin len,(∃ cs',w.cells? base (a.add (i.val*P.cellsOf e)) (P.cellsOf e)=some cs'∧d.K w (f i) cs')∧Q (f i):=fun i=>Classical.choose_spec (hi i)
 have hlen:(List.ofFn f).length=len:=by simp
 have hmax:cap≤9223372036854775807:=by unfold maxLen at hm;omega
 refine ⟨List.ofFn f,⟨some a,cap,by rw [hlen],by omega,⟨rfl,by omega,fun _=>⟨a,rfl,fun j p hj=>?_⟩⟩⟩,by omega,fun y hy=>?_⟩
 ·obtain ⟨hj',rfl⟩:=List.getElem?_eq_some_iff.1 hj
  obtain ⟨⟨cs',h1,hK⟩,_⟩:=hfs ⟨j,by omega⟩
  obtain ⟨_,hcl,hcell⟩:=World.cells?_some h1
  refine ⟨cs',by omega,by simpa using hK,fun i u hu=>?_⟩
  have hiu:i<P.cellsOf e:=by
   have:=(List.getElem?_eq_some_iff.1 hu).1
   omega
  have:=hcell i hiu
  rw [Go.Deep.add_add,hu,hc] at this
  exact this
 ·obtain ⟨i,rfl⟩:=(List.mem_ofFn).1 hy
  exact (hfs i).2
end
end Go.Proofs.YteaagaekdkolnaaGreat.Opn

