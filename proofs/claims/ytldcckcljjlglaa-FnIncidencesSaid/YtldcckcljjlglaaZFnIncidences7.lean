/- A part of the proof of FnIncidences: printed contracts and plain laws, joined by a program of this session. -/
import Derived.Test.YtldcckcljjlglaaZFnIncidences6
import Derived.Deep.Slices
import Derived.ChangeOld
import Derived.Carry
namespace Go.Proofs.Ytldcckcljjlglaa.Com
open Go.RowKit Go.Proofs.YtldcckcljjlglaaW.PrintWords
set_option linter.unusedSimpArgs false
set_option linter.unusedVariables false
theorem w64 {x:Int} (h0:-9223372036854775808≤x) (h1:x≤9223372036854775807):wrap64 x=x:=by unfold wrap64;omega
theorem zS {α:Type} (l:List α) (n:Nat) (d:α) (h:n<l.length):l.drop n=l.getD n d::l.drop (n+1):=by
 rw [List.drop_eq_getElem_cons h];simp [List.getD,List.getElem?_eq_getElem h]
theorem xG {α:Type} (l:List α) (n:Nat) (d:α) (h:n<l.length):l.getD n d ∈ l:=by
 simp [List.getD,List.getElem?_eq_getElem h]
theorem AH {α β:Type} (f:α→β) (l:List α) (n:Nat) (d:α) (e:β) (h:n<l.length):(l.map f).getD n e=f (l.getD n d):=by
 simp [List.getD,h]
theorem bA {α:Type} {c:Prop} [Decidable c] {g f:Nat→Option α} {r:α} (hc:c) (h:Ev g r):Ev (fun k=>if c then g k else f k) r:=by simpa only [if_pos hc] using h
theorem bH {α:Type} {c:Prop} [Decidable c] {g f:Nat→Option α} {r:α} (hc:¬ c) (h:Ev f r):Ev (fun k=>if c then g k else f k) r:=by simpa only [if_neg hc] using h
theorem xI {α:Type} {o:Option α} {r:α} (h:o=some r):Ev (fun _=>o) r:=⟨0,fun _ _=>h⟩
theorem EK {α:Type} {g:Nat→Option α} {r:α} (K:Nat) (h:∀ k,K≤k→g k=some r):Ev g r:=⟨K,h⟩
theorem bC {α β:Type} {o:Option α} {f:Nat→α→Option β} {a:α} {r:β} (h:o=some a) (k:Ev (fun n=>f n a) r):Ev (fun n=>o.bind (f n)) r:=Ev.bind ⟨0,fun _ _=>h⟩ k
end Go.Proofs.Ytldcckcljjlglaa.Com

namespace Go.Proofs.Ytldcckcljjlglaa.Pure
open Go.RowKit Go.Proofs.Ytldcckcljjlglaa.P Go.Proofs.YtldcckcljjlglaaW.PrintWords Go.Proofs.YtldcckcljjlglaaW.PrintLast Go.Proofs.Ytldcckcljjlglaa.Com
set_option linter.unusedSimpArgs false
set_option linter.unusedVariables false
def nS (n m:Int):Bool:=decide (-m≤n∧n≤m)
theorem wK {n m:Int}:nS n m=true↔-m≤n∧n≤m:=by simp [nS]
theorem CK (a lo hi:Int):spec_l1In.f a lo hi=some (decide (lo≤a∧a≤hi)):=by
 unfold spec_l1In.f
 by_cases h:a ≥ lo
 ·rw [if_pos h];congr 1;simp only [decide_eq_decide];omega
 ·rw [if_neg h];congr 1;symm;simp only [decide_eq_false_iff_not];omega
theorem oT (a m:Int) (h0:0≤m) (h1:m≤4611686018427387904):spec_l1In.f a (wrap64 (-m)) m=some (nS a m):=by
 rw [w64 (by omega) (by omega),CK];rfl
theorem yY (n m:Int) (h0:0≤m) (h1:m≤4611686018427387904):lG n m = !nS n m:=by
 unfold lG impl_isFar.f nS
 rw [w64 (by omega) (by omega)]
 by_cases h:n < -m
 ·rw [if_pos h,Option.getD_some,Bool.eq_iff_iff];simp;omega
 ·rw [if_neg h,Option.getD_some,Bool.eq_iff_iff];simp;omega
theorem vO (x y m:Int) (h0:0≤m) (h1:m≤4611686018427387904):spec_l2Fits.f x y m=some (nS x m&&nS y m):=by
 unfold spec_l2Fits.f
 rw [oT x m h0 h1,oT y m h0 h1]
 simp only [Option.bind_some]
 cases nS x m <;> simp
theorem yF (m:Int) (l:List dB) (h0:0≤m) (h1:m≤4611686018427387904):impl_areNear.f m l=some (l.all fun p=>nS p.f0 m&&nS p.f1 m):=by
 unfold impl_areNear.f rD
 congr 1
 rw [List.not_any_eq_all_not]
 congr 1
 funext p
 rw [yY _ _ h0 h1,yY _ _ h0 h1]
 simp
end Go.Proofs.Ytldcckcljjlglaa.Pure

namespace Go.Proofs.Ytldcckcljjlglaa.Pure
open Go.RowKit Go.Proofs.YtldcckcljjlglaaW.PrintWords Go.Proofs.YtldcckcljjlglaaW.PrintLast Go.Proofs.Ytldcckcljjlglaa.Com
set_option linter.unusedSimpArgs false
set_option linter.unusedVariables false
theorem rJ (x y:Int):wrap64 (wrap64 x+y)=wrap64 (x+y):=by unfold wrap64;omega
theorem rK (x y:Int):wrap64 (x+wrap64 y)=wrap64 (x+y):=by unfold wrap64;omega
theorem nB (x y:Int):wrap64 (wrap64 x-y)=wrap64 (x-y):=by unfold wrap64;omega
theorem nC (x y:Int):wrap64 (x-wrap64 y)=wrap64 (x-y):=by unfold wrap64;omega
theorem DI (x:Int):wrap64 (-wrap64 x)=wrap64 (-x):=by unfold wrap64;omega
theorem CL (x:Int):∃ q:Int,wrap64 x=x+q*18446744073709551616:=⟨-((x+9223372036854775808) / 18446744073709551616),by unfold wrap64;omega⟩
theorem yG (x q:Int):wrap64 (x+q*18446744073709551616)=wrap64 x:=by unfold wrap64;omega
theorem oU (x y:Int):wrap64 (wrap64 x*y)=wrap64 (x*y):=by
 obtain ⟨q,h⟩:=CL x
 rw [h,Int.add_mul,Int.mul_assoc q,Int.mul_comm 18446744073709551616 y,← Int.mul_assoc q,yG]
theorem rL (x y:Int):wrap64 (x*wrap64 y)=wrap64 (x*y):=by rw [Int.mul_comm,oU,Int.mul_comm]
theorem dK {a b:Int} {A B:Nat} (ha:a.natAbs≤A) (hb:b.natAbs≤B):(a*b).natAbs≤A*B:=by
 rw [Int.natAbs_mul];exact Nat.mul_le_mul ha hb
theorem fX (x:Int) (h:x.natAbs≤4611686018427387904):wrap64 x=x:=by unfold wrap64;omega
end Go.Proofs.Ytldcckcljjlglaa.Pure

namespace Go.Proofs.Ytldcckcljjlglaa.Pure
open Go.RowKit Go.Proofs.Ytldcckcljjlglaa.P Go.Proofs.YtldcckcljjlglaaW.PrintWords Go.Proofs.YtldcckcljjlglaaW.PrintLast Go.Proofs.Ytldcckcljjlglaa.Com
set_option linter.unusedSimpArgs false
set_option linter.unusedVariables false
abbrev Pt:=dB
abbrev Tr:=eV
def iN (l:List Pt) (i j:Int):Bool:=(aA l i).f0==(aA l j).f0&&(aA l i).f1==(aA l j).f1
theorem sR (l:List Pt) (i j:Int):iN l i j=iN l j i:=by unfold iN;rw [BEq.comm (a:=(aA l i).f0),BEq.comm (a:=(aA l i).f1)]
def iO (p:Pt):Bool:=nS p.f0 20&&nS p.f1 20
def sC (p:Pt):Tr:=⟨p.f0,p.f1,1⟩
def apart (l:List Pt) (n:Int):Prop:=∀ i j:Int,0≤i→i<j→j<n→iN l i j=false
def mA (l:List Pt):Prop:=l.length=6∧(∀ i:Int,0≤i→i<l.length→iO (aA l i)=true)∧apart l l.length
theorem zT (l:List Pt) (out:List Tr) (hl:l.length≤1099511627776) (i:Int) (hi0:0≤i) (hin:i<l.length) (ho:out.length=i.toNat) (r:List Tr×Bool)
  (h:Ev (fun k=>dM k l (out++[sC (aA l i)]) (i+1)) r):∀ (d:Nat) (j:Int),0≤j→j+d=i→(∀ m,j≤m→m<i→iN l m i=false)→Ev (fun k=>dI k l out i j) r:=by
 intro d
 induction d with
 | zero =>
  intro j h0 hd _
  refine cR (fun k=>?_) h
  simp only [dI,spec_TripleOf.f,Option.bind_some]
  rw [if_neg (by omega),if_pos hi0,if_pos hin,if_pos (by omega),w64 (by omega) (by omega)]
  rfl
 | succ d ih =>
  intro j h0 hd hn
  refine cR (fun k=>?_) (ih (j+1) (by omega) (by omega) (fun m h1 h2=>hn m (by omega) h2))
  have e:((aA l j).f0==(aA l i).f0&&(aA l j).f1==(aA l i).f1)=false:=hn j (by omega) (by omega)
  simp only [dI]
  rw [if_pos (by omega),if_pos h0,if_pos (by omega),if_pos hi0,if_pos hin,if_neg (Bool.eq_false_iff.1 e),w64 (by omega) (by omega)]
theorem yI (l:List Pt) (out:List Tr) (hl:l.length≤1099511627776) (i:Int) (hi0:0≤i) (hin:i<l.length) (m:Int) (hm:m<i) (hs:iN l m i=true):∀ (d:Nat) (j:Int),0≤j→j+d=m →
  Ev (fun k=>dI k l out i j) ([],false):=by
 intro d
 induction d with
 | zero =>
  intro j h0 hd
  obtain rfl:j=m:=by omega
  refine cR (f:=fun _=>some ([],false)) (fun k=>?_) (bU _)
  have e:((aA l j).f0==(aA l i).f0&&(aA l j).f1==(aA l i).f1)=true:=hs
  simp only [dI]
  rw [if_pos (by omega),if_pos h0,if_pos (by omega),if_pos hi0,if_pos hin,if_pos e]
 | succ d ih =>
  intro j h0 hd
  by_cases e:iN l j i=true
  ·refine cR (f:=fun _=>some ([],false)) (fun k=>?_) (bU _)
   have e:((aA l j).f0==(aA l i).f0&&(aA l j).f1==(aA l i).f1)=true:=e
   simp only [dI]
   rw [if_pos (by omega),if_pos h0,if_pos (by omega),if_pos hi0,if_pos hin,if_pos e]
  ·refine cR (fun k=>?_) (ih (j+1) (by omega) (by omega))
   have e:((aA l j).f0==(aA l i).f0&&(aA l j).f1==(aA l i).f1)=false:=by simpa [iN] using e
   simp only [dI]
   rw [if_pos (by omega),if_pos h0,if_pos (by omega),if_pos hi0,if_pos hin,if_neg (Bool.eq_false_iff.1 e),w64 (by omega) (by omega)]
theorem vG (l:List Pt) (i:Int) (h0:0≤i) (h1:i<l.length):(l.take i.toNat).map sC++[sC (aA l i)]=(l.take (i+1).toNat).map sC:=by
 rw [show (i+1).toNat=i.toNat+1 by omega,List.take_succ_eq_append_getElem (by omega),List.map_append]
 simp [aA,List.getD,List.getElem?_eq_getElem (show i.toNat<l.length by omega)]
theorem DJ (l:List Pt) (hl:l.length≤1099511627776):∀ (d:Nat) (i:Int),0≤i→i+d=l.length→(∀ m:Int,0≤m→m<i→iO (aA l m)=true)→apart l i →
  ∃ r,Ev (fun k=>dM k l ((l.take i.toNat).map sC) i) r∧(r.2=true↔mA l)∧(r.2=true→r.1=l.map sC):=by
 intro d
 induction d with
 | zero =>
  intro i h0 hd hf ha
  have hi:i=l.length:=by omega
  refine ⟨(l.map sC,((l.length:Int)==6)),cR (f:=fun _=>_) (fun k=>?_) (bU _),?_,fun _=>rfl⟩
  ·simp only [dM]
   rw [if_neg (by omega),List.take_of_length_le (by omega),List.length_map]
  ·subst hi
   simp only [beq_iff_eq]
   exact ⟨fun h=>⟨by omega,hf,ha⟩,fun h=>by have:=h.1;omega⟩
 | succ d ih =>
  intro i h0 hd hf ha
  have hin:i<(l.length:Int):=by omega
  have st:∀ (r:List Tr×Bool) (f:Nat→Option (List Tr×Bool)),Ev f r→(∀ k,dM (k+1) l ((l.take i.toNat).map sC) i=f k)→Ev (fun k=>dM k l ((l.take i.toNat).map sC) i) r:=fun r f h e=>cR e h
  by_cases hfi:iO (aA l i)=true
  ·have e1:∀ k,dM (k+1) l ((l.take i.toNat).map sC) i=dI k l ((l.take i.toNat).map sC) i 0:=by
    intro k
    simp only [dM]
    rw [if_pos hin,if_pos h0,vO _ _ 20 (by omega) (by omega)]
    have hfi:(nS (aA l i).f0 20&&nS (aA l i).f1 20)=true:=hfi
    simp only [Option.bind_some,hfi,if_true]
   by_cases hm:∃ m,0≤m∧m<i∧iN l m i=true
   ·obtain ⟨m,hm0,hm1,hm2⟩:=hm
    refine ⟨([],false),st _ _ (yI l _ hl i h0 hin m hm1 hm2 m.toNat 0 (by omega) (by omega)) e1,?_,fun h=>(by cases h)⟩
    refine ⟨fun h=>(by cases h),fun h=>?_⟩
    rw [h.2.2 m i hm0 hm1 hin] at hm2;cases hm2
   ·have hn:∀ m,0≤m→m<i→iN l m i=false:=fun m h1 h2=>by
     cases e:iN l m i with
     | false=>rfl
     | true=>exact absurd ⟨m,h1,h2,e⟩ hm
    obtain ⟨r,h1,h2,h3⟩:=ih (i+1) (by omega) (by omega) (fun m hm0 hm1=>by
     by_cases e:m=i
     ·rw [e];exact hfi
     ·exact hf m hm0 (by omega)) (fun a b ha0 hab hb=>by
     by_cases e:b=i
     ·rw [e] at hab ⊢;exact hn a ha0 hab
     ·exact ha a b ha0 hab (by omega))
    rw [← vG l i h0 hin] at h1
    exact ⟨r,st _ _ (zT l _ hl i h0 hin (by simp;omega) r h1 i.toNat 0 (by omega) (by omega) hn) e1,h2,h3⟩
  ·refine ⟨([],false),st _ (fun _=>some ([],false)) (bU _) (fun k=>?_),⟨fun h=>(by cases h),fun h=>absurd (h.2.1 i h0 hin) hfi⟩,fun h=>(by cases h)⟩
   simp only [dM]
   rw [if_pos hin,if_pos h0,vO _ _ 20 (by omega) (by omega)]
   have hfi:(nS (aA l i).f0 20&&nS (aA l i).f1 20)=false:=by simpa [iO] using hfi
   simp only [Option.bind_some,hfi,Bool.false_eq_true,if_false]
theorem sD (l:List Pt) (hl:l.length≤1099511627776):∃ r,Ev (fun k=>spec_l26Six.f k l) r∧(r.2=true↔mA l)∧(r.2=true→r.1=l.map sC) :=
 DJ l hl l.length 0 (by omega) (by omega) (fun m h0 h1=>by omega) (fun a b h0 h1 h2=>by omega)
theorem BA (l:List Pt) (x y:Int) (hl:l.length≤1099511627776):∀ (d:Nat) (i:Int),0≤i→i+d=l.length →
  ∃ t:Int,Ev (fun k=>eB k l l.length i x y) t∧(t ≥ 0↔∃ m:Int,i≤m∧m<l.length∧(x==(aA l m).f0&&y==(aA l m).f1)=true):=by
 intro d
 induction d with
 | zero =>
  intro i h0 hd
  refine ⟨-1,cR (f:=fun _=>some (-1)) (fun k=>?_) (bU _),⟨fun h=>by omega,fun ⟨m,h1,h2,_⟩=>by omega⟩⟩
  simp only [eB]
  rw [if_neg (by omega)]
 | succ d ih =>
  intro i h0 hd
  by_cases e:(x==(aA l i).f0&&y==(aA l i).f1)=true
  ·refine ⟨i,cR (f:=fun _=>some i) (fun k=>?_) (bU _),⟨fun h=>⟨i,by omega,by omega,e⟩,fun _=>by omega⟩⟩
   simp only [eB]
   rw [if_pos (by omega),if_pos h0,if_pos (by omega),if_pos e]
  ·obtain ⟨t,h1,h2⟩:=ih (i+1) (by omega) (by omega)
   refine ⟨t,cR (fun k=>?_) h1,h2.trans ⟨fun ⟨m,a,b,c⟩=>⟨m,by omega,b,c⟩,fun ⟨m,a,b,c⟩=>⟨m,?_,b,c⟩⟩⟩
   ·simp only [eB]
    rw [if_pos (by omega),if_pos h0,if_pos (by omega),if_neg e,w64 (by omega) (by omega)]
   ·by_cases q:m=i
    ·subst q;exact absurd c e
    ·omega
theorem xJ (l:List Pt) (n:Nat) (m:Int) (h0:0≤m) (h1:m<n):aA (l.take n) m=aA l m:=by
 unfold aA
 simp only [List.getD,List.getElem?_take,if_pos (show m.toNat<n by omega)]
theorem zU (l:List Pt) (hl:l.length≤1099511627776):∀ (d:Nat) (i:Int),0≤i→i+d=l.length→apart l i →
  ∃ b,Ev (fun k=>eG k l l l.length i) b∧(b=true↔mA l):=by
 intro d
 induction d with
 | zero =>
  intro i h0 hd ha
  have hi:i=l.length:=by omega
  subst hi
  by_cases h6:(l.length:Int)=6
  ·refine ⟨l.all fun p=>nS p.f0 20&&nS p.f1 20,cR (f:=fun _=>_) (fun k=>?_) (bU _),?_⟩
   ·simp only [eG]
    rw [if_neg (by omega),if_pos h6,yF 20 l (by omega) (by omega)];rfl
   ·rw [List.all_eq_true]
    constructor
    ·intro h
     refine ⟨by omega,fun i h0 h1=>h _ ?_,ha⟩
     exact xG l _ _ (by omega)
    ·intro h p hp
     obtain ⟨n,hn,rfl⟩:=List.mem_iff_getElem.1 hp
     have:=h.2.1 n (by omega) (by omega)
     simpa [iO,aA,List.getD,List.getElem?_eq_getElem hn] using this
  ·refine ⟨false,cR (f:=fun _=>some false) (fun k=>?_) (bU _),⟨fun h=>(by cases h),fun h=>by have:=h.1;omega⟩⟩
   simp only [eG]
   rw [if_neg (by omega),if_neg h6]
 | succ d ih =>
  intro i h0 hd ha
  have hin:i<(l.length:Int):=by omega
  have hlt:((l.take i.toNat).length:Int)=i:=by rw [List.length_take];omega
  obtain ⟨t,ht,hti⟩:=BA (l.take i.toNat) (aA l i).f0 (aA l i).f1 (by omega) i.toNat 0 (by omega) (by omega)
  have hc:Ev (fun k=>impl_Point_149.f k (l.take i.toNat) (aA l i).f0 (aA l i).f1) (decide (t ≥ 0)):=by
   simp only [impl_Point_149.f,impl_Point_168.f]
   exact Ev.bind ht (bU _)
  have st:∀ (f:Nat→Option Bool) (b:Bool),Ev f b→(∀ k,((impl_Point_149.f k (l.take i.toNat) (aA l i).f0 (aA l i).f1).bind fun t=>if t=true then some false else eG k l l l.length (i+1))=f k)→Ev (fun k=>eG k l l l.length i) b:=by
   intro f b hf e
   refine cR (fun k=>?_) hf
   rw [← e k]
   simp only [eG]
   rw [if_pos hin,if_pos h0,if_pos hin,if_pos (by omega),w64 (by omega) (by omega)]
  by_cases hp:t ≥ 0
  ·obtain ⟨m,hm0,hm1,hm2⟩:=hti.1 hp
   rw [hlt] at hm1
   rw [xJ l _ m hm0 (by omega)] at hm2
   refine ⟨false,?_,⟨fun h=>(by cases h),fun h=>?_⟩⟩
   ·refine st _ _ (Ev.bind hc ?_) (fun k=>rfl)
    exact bA (by simpa using hp) (bU _)
   ·have:=h.2.2 m i hm0 hm1 hin
    rw [sR] at this
    have e2:iN l i m=true:=hm2
    rw [e2] at this;cases this
  ·obtain ⟨b,h1,h2⟩:=ih (i+1) (by omega) (by omega) (fun a c ha0 hac hc=>by
    by_cases e:c=i
    ·subst e
     cases q:iN l a c with
     | false=>rfl
     | true =>
      rw [sR] at q
      exact absurd (hti.2 ⟨a,ha0,by omega,by rw [xJ l _ a ha0 (by omega)];exact q⟩) hp
    ·exact ha a c ha0 hac (by omega))
   refine ⟨b,?_,h2⟩
   refine st _ _ (Ev.bind hc ?_) (fun k=>rfl)
   exact bH (by simpa using hp) h1
theorem vP (l:List Pt) (hl:l.length≤1099511627776):∃ b,Ev (fun k=>impl_areSix.f k l) b∧(b=true↔mA l) :=
 zU l hl l.length 0 (by omega) (by omega) (fun a b h0 h1 h2=>by omega)
theorem uG (n m:Int) (h0:0≤m) (h1:m≤4611686018427387904):lG n m = !nS n m:=by
 unfold lG impl_isFar.f nS
 rw [w64 (by omega) (by omega)]
 by_cases h:n < -m
 ·rw [if_pos h,Option.getD_some,Bool.eq_iff_iff];simp;omega
 ·rw [if_neg h,Option.getD_some,Bool.eq_iff_iff];simp;omega
theorem kH (x y z m:Int) (h0:0≤m) (h1:m≤4611686018427387904):spec_l26Fits.f x y z m=some (nS x m&&(nS y m&&nS z m)):=by
 unfold spec_l26Fits.f
 rw [oT x m h0 h1,oT y m h0 h1,oT z m h0 h1]
 simp only [Option.bind_some]
 cases nS x m <;> cases nS y m <;> simp
theorem rM (m:Int) (l:List eV) (h0:0≤m) (h1:m≤4611686018427387904):impl_isLimited.f m l=some (l.all fun p=>nS p.f0 m&&(nS p.f1 m&&nS p.f2 m)):=by
 unfold impl_isLimited.f pJ
 congr 1
 rw [List.not_any_eq_all_not]
 congr 1
 funext p
 rw [uG _ _ h0 h1,uG _ _ h0 h1,uG _ _ h0 h1]
 cases nS p.f0 m <;> cases nS p.f1 m <;> simp
theorem yZ (a b:Int) (hb:b≠0):(Int.tmod a b).natAbs<b.natAbs:=by
 rw [Int.natAbs_tmod];exact Nat.mod_lt _ (by omega)
theorem xK (a b:Int):Int.gcd b (Int.tmod a b)=Int.gcd a b:=by
 unfold Int.gcd
 rw [Int.natAbs_tmod,Nat.gcd_comm b.natAbs,← Nat.gcd_rec,Nat.gcd_comm]
theorem DK (r:Int) (h:r.natAbs≤4611686018427387904):mx r (wrap64 (-r))=(r.natAbs:Int):=by
 rw [w64 (by omega) (by omega)];unfold mx;omega
theorem CM (n:Nat):∀ (a b:Int),b.natAbs≤n→a.natAbs≤4611686018427387904→b.natAbs≤4611686018427387904 →
  Ev (fun k=>fA k a b) (Int.gcd a b:Int):=by
 induction n with
 | zero =>
  intro a b hb ha _
  obtain rfl:b=0:=by omega
  refine cR (f:=fun _=>some (Int.gcd a 0:Int)) (fun k=>?_) (bU _)
  simp only [fA,if_true,spec_l1Max.f]
  rw [w64 (by omega) (by omega)]
  have hg:Int.gcd a 0=a.natAbs:=by simp
  rw [hg]
  by_cases h:a > -a
  ·rw [if_pos h];simp only [Option.bind_some];congr 1;omega
  ·rw [if_neg h];simp only [Option.bind_some];congr 1;omega
 | succ n ih =>
  intro a b hb ha hb2
  by_cases h0:b=0
  ·subst h0;exact ih a 0 (by omega) ha (by omega)
  have hlt:=yZ a b h0
  have:=ih b (Int.tmod a b) (by omega) hb2 (by omega)
  rw [xK] at this
  refine cR (f:=fun k=>fA k b (Int.tmod a b)) (fun k=>?_) this
  simp only [fA]
  rw [if_neg h0]
theorem vQ (a b:Int) (ha:a.natAbs≤4611686018427387904) (hb:b.natAbs≤4611686018427387904):Ev (fun k=>spec_l24Gcd.f k a b) (Int.gcd a b:Int):=CM _ a b (Nat.le_refl _) ha hb
def xL:Nat→List Int→Nat
 | g,[]=>g
 | g,x::l=>xL (Nat.gcd g x.natAbs) l
theorem zV (n:Nat):∀ (o x:Int) (l:List Int) (m i:Int),x.natAbs≤n→o.natAbs≤4611686018427387904→x.natAbs≤4611686018427387904→∀ r:Int,
  (∀ o':Int,o'.natAbs=Int.gcd o x→o'.natAbs≤4611686018427387904→Ev (fun k=>eM k o' l m (wrap64 (i+1))) r)→Ev (fun k=>eN k o x l m i) r:=by
 induction n with
 | zero =>
  intro o x l m i hx ho _ r h
  obtain rfl:x=0:=by omega
  refine cR (f:=fun k=>eM k o l m (wrap64 (i+1))) (fun k=>by simp only [eN,if_true]) (h o (by simp) ho)
 | succ n ih =>
  intro o x l m i hx ho hx2 r h
  by_cases h0:x=0
  ·subst h0;exact ih o 0 l m i (by omega) ho (by omega) r h
  have hlt:=yZ o x h0
  refine cR (f:=fun k=>eN k x (Int.tmod o x) l m i) (fun k=>by simp only [eN];rw [if_neg h0]) ?_
  exact ih x (Int.tmod o x) l m i (by omega) hx2 (by omega) r (fun o' e b=>h o' (by rw [e,xK]) b)
theorem yJ (o x:Int) (ho:o.natAbs≤4611686018427387904) (hx:x.natAbs≤4611686018427387904):Int.gcd o x≤4611686018427387904:=by
 unfold Int.gcd
 by_cases h:x.natAbs=0
 ·rw [h,Nat.gcd_zero_right];exact ho
 ·exact Nat.le_trans (Nat.le_of_dvd (by omega) (Nat.gcd_dvd_right _ _)) hx
theorem zW (l:List Int) (hl:l.length≤1099511627776) (hb:∀ x ∈ l,x.natAbs≤4611686018427387904) (d:Nat):∀ (o i:Int),0≤i→i+d=l.length→o.natAbs≤4611686018427387904 →
  Ev (fun k=>eM k o l (l.length:Int) i) (xL o.natAbs (l.drop i.toNat):Int):=by
 induction d with
 | zero =>
  intro o i h0 hi ho
  refine cR (f:=fun _=>some (xL o.natAbs (l.drop i.toNat):Int)) (fun k=>?_) (bU _)
  simp only [eM]
  rw [if_neg (by omega),List.drop_of_length_le (by omega),DK o ho];rfl
 | succ d ih =>
  intro o i h0 hi ho
  have hlt:i.toNat<l.length:=by omega
  have hm:rd l i ∈ l:=xG l i.toNat 0 hlt
  refine cR (f:=fun k=>eN k o (rd l i) l (l.length:Int) i) (fun k=>by simp only [eM];rw [if_pos (by omega),if_pos h0,if_pos (by omega)]) ?_
  refine zV _ o (rd l i) l _ i (Nat.le_refl _) ho (hb _ hm) _ (fun o' e b=>?_)
  have:=ih o' (i+1) (by omega) (by omega) b
  rw [w64 (by omega) (by omega),zS l i.toNat 0 hlt]
  rw [show (i+1).toNat=i.toNat+1 from by omega] at this
  have e2:xL o.natAbs (l.getD i.toNat 0::l.drop (i.toNat+1))=xL o'.natAbs (l.drop (i.toNat+1)):=by
   simp only [xL];rw [e];rfl
  rw [e2];exact this
theorem yK (l:List Int) (hl:l.length≤1099511627776) (hb:∀ x ∈ l,x.natAbs≤4611686018427387904):Ev (fun k=>impl_divisor.f k l) (xL 0 l:Int):=by
 have:=zW l hl hb l.length 0 0 (by omega) (by omega) (by simp)
 simpa [impl_divisor.f] using this
theorem BB (x y z:Int) (hx:x.natAbs≤4611686018427387904) (hy:y.natAbs≤4611686018427387904) (hz:z.natAbs≤4611686018427387904):Ev (fun k=>impl_divisor.f k [x,y,z]) (Int.gcd (Int.gcd x y) z:Int):=by
 have:=yK [x,y,z] (by simp) (by simp [hx,hy,hz])
 simpa [xL,Int.gcd] using this
def fY (a b c:Int) (m:Int):Bool:=nS a m&&(nS b m&&nS c m)
theorem pK (a b c m:Int):(nS a m&&(nS b m&&nS c m))=fY a b c m:=rfl
theorem gH {a b c m:Int}:fY a b c m=true↔(-m≤a∧a≤m)∧(-m≤b∧b≤m)∧(-m≤c∧c≤m):=by simp [fY,wK]
def lA (x y z:Int):Int×Int×Int :=
 if (Int.gcd (Int.gcd x y) z:Int)=0 then (0,0,0) else (wrap64 (Int.tdiv x (Int.gcd (Int.gcd x y) z)),wrap64 (Int.tdiv y (Int.gcd (Int.gcd x y) z)),wrap64 (Int.tdiv z (Int.gcd (Int.gcd x y) z)))
def fV (a b c d e f:Int):Int×Int×Int :=
 if fY a b c 1000000=true then if fY d e f 1000000=true then lA (b*f-c*e) (c*d-a*f) (a*e-b*d) else (0,0,0) else (0,0,0)
theorem wL {a b c d:Int} (ha:-1000000≤a∧a≤1000000) (hb:-1000000≤b∧b≤1000000) (hc:-1000000≤c∧c≤1000000) (hd:-1000000≤d∧d≤1000000) :
  (a*b-c*d).natAbs≤2000000000000:=by
 have h1:(a*b).natAbs≤1000000*1000000:=dK (by omega) (by omega)
 have h2:(c*d).natAbs≤1000000*1000000:=dK (by omega) (by omega)
 omega
theorem fD (a b c d e f:Int):Ev (fun k=>spec_CrossOf.f k a b c d e f) (fV a b c d e f):=by
 simp only [spec_CrossOf.f,kH _ _ _ 1000000 (show (0:Int)≤1000000 by omega) (by omega),Option.bind_some,fV,pK]
 have stop:Ev (fun k=>dU k true a b c d e f) (0,0,0):=cR (f:=fun _=>some (0,0,0)) (fun k=>by simp only [dU,if_true]) (bU _)
 by_cases h1:fY a b c 1000000=true
 ·simp only [if_pos h1]
  by_cases h2:fY d e f 1000000=true
  ·simp only [if_pos h2,h2,Bool.not_true]
   rw [gH] at h1 h2
   obtain ⟨ha,hb,hc⟩:=h1
   obtain ⟨hd,he,hf⟩:=h2
   have b1:=wL hb hf hc he
   have b2:=wL hc hd ha hf
   have b3:=wL ha he hb hd
   refine cR (f:=fun k=>_) (fun k=>by simp only [dU,Bool.false_eq_true,if_false,nB,nC];rfl) ?_
   simp only [fX _ (Nat.le_trans b1 (by omega)),fX _ (Nat.le_trans b2 (by omega)),fX _ (Nat.le_trans b3 (by omega))]
   refine Ev.bind (vQ _ _ (by omega) (by omega)) (Ev.bind (vQ _ _ (yJ _ _ (by omega) (by omega)) (by omega)) ?_)
   unfold lA
   split <;> exact bU _
  ·simp only [if_neg h2,Bool.not_eq_true _ ▸ h2,Bool.not_false]
   exact stop
 ·simp only [if_neg h1];exact stop
theorem jC (a b c d e f:Int):Ev (fun k=>impl_CrossOf.f k a b c d e f) (fV a b c d e f):=by
 simp only [impl_CrossOf.f,rM 1000000 _ (show (0:Int)≤1000000 by omega) (by omega),Option.bind_some,fV,List.all_cons,List.all_nil,Bool.and_true,pK]
 by_cases h1:fY a b c 1000000=true
 ·by_cases h2:fY d e f 1000000=true
  ·simp only [h1,h2,Bool.and_self,if_true,nB,nC]
   rw [gH] at h1 h2
   obtain ⟨ha,hb,hc⟩:=h1
   obtain ⟨hd,he,hf⟩:=h2
   have b1:=wL hb hf hc he
   have b2:=wL hc hd ha hf
   have b3:=wL ha he hb hd
   simp only [fX _ (Nat.le_trans b1 (by omega)),fX _ (Nat.le_trans b2 (by omega)),fX _ (Nat.le_trans b3 (by omega))]
   refine Ev.bind (BB _ _ _ (by omega) (by omega) (by omega)) ?_
   unfold lA
   split <;> exact bU _
  ·simp only [if_neg h2,Bool.not_eq_true _ ▸ h2,Bool.and_false,Bool.false_eq_true,if_false,ite_self]
   exact bU _
 ·simp only [if_neg h1,Bool.not_eq_true _ ▸ h1,Bool.false_and,Bool.false_eq_true,if_false]
  exact bU _
def gD (c:Int×Int×Int):Bool:=c.1==0&&(c.2.1==0&&c.2.2==0)
def cG (a b:Int×Int×Int):Int×Int×Int:=fV a.1 a.2.1 a.2.2 b.1 b.2.1 b.2.2
def cL (l:List Pt) (a b:Int):Int×Int×Int:=fV (aA l a).f0 (aA l a).f1 1 (aA l b).f0 (aA l b).f1 1
theorem kE (a b c d e f:Int):Ev (fun k=>spec_l26Equal.f k a b c d e f) (gD (fV a b c d e f)):=by
 simp only [spec_l26Equal.f]
 exact Ev.bind (fD _ _ _ _ _ _) (bU _)
theorem iV (a b c d e f:Int):Ev (fun k=>impl_areOneLine.f k a b c d e f) (gD (fV a b c d e f)):=by
 simp only [impl_areOneLine.f]
 exact Ev.bind (jC _ _ _ _ _ _) (bU _)
theorem uI (a b c d:Int):Ev (fun k=>impl_through.f k a b c d) (fV a b 1 c d 1):=by
 simp only [impl_through.f,impl_TripleOf.f,Option.bind_some]
 exact Ev.bind (jC _ _ _ _ _ _) (bU _)
theorem mB (l:List Pt) (i:Int) (h0:0≤i) (h1:i<l.length):aI (l.map sC) i=sC (aA l i):=by
 unfold aI aA
 exact AH sC l i.toNat _ _ (by omega)
def oV (a b c d e f:Int):Int:=wrap64 (a*d-a*f+c*f-c*b+e*b-e*d)
theorem nD {n:Int} (h:nS n 20=true):nS n 100000=true:=by rw [wK] at h ⊢;omega
theorem xM (p q r:Pt) (hp:iO p=true) (hq:iO q=true) (hr:iO r=true):spec_AreOnOne.f p.f0 p.f1 1 q.f0 q.f1 1 r.f0 r.f1 1=some (oV p.f0 p.f1 q.f0 q.f1 r.f0 r.f1==0):=by
 simp only [iO,Bool.and_eq_true] at hp hq hr
 simp only [spec_AreOnOne.f,kH _ _ _ 100000 (show (0:Int)≤100000 by omega) (by omega),Option.bind_some,nD hp.1,nD hp.2,nD hq.1,nD hq.2,nD hr.1,nD hr.2,Bool.true_and,show nS 1 100000=true from rfl,if_true]
 simp only [nB,nC,oU,rL,rJ,rK,oV]
 congr 3
 grind
theorem nE (l:List Pt) (a b:Int) (ha:0≤a) (ha':a<l.length) (hb:0≤b) (hb':b<l.length):Ev (fun k=>qI k (tr (l.map sC) a) (tr (l.map sC) b)) (cL l a b):=by
 simp only [qI,tr,mB l a ha ha',mB l b hb hb']
 exact fD _ _ _ _ _ _
theorem uJ (l:List Pt) (a b:Int):Ev (fun k=>DR k (pt l a) (pt l b)) (cL l a b):=uI _ _ _ _
def uK (l:List Pt):List (Int×Int)→List Tr→List Tr×Bool
 | [],out=>(out,true)
 | (a,b)::es,out=>if gD (cG (cL l a b) (cL l (a+3) (b+3)))=true then ([],false) else uK l es (out++[⟨(cG (cL l a b) (cL l (a+3) (b+3))).1,(cG (cL l a b) (cL l (a+3) (b+3))).2.1,(cG (cL l a b) (cL l (a+3) (b+3))).2.2⟩])
theorem sS (l:List Pt):∀ es out,(uK l es out).1.length≤out.length+es.length
 | [],out=>Nat.le_refl _
 | (a,b)::es,out=>by
  unfold uK
  split
  ·exact Nat.zero_le _
  ·have:=sS l es (out++[⟨(cG (cL l a b) (cL l (a+3) (b+3))).1,(cG (cL l a b) (cL l (a+3) (b+3))).2.1,(cG (cL l a b) (cL l (a+3) (b+3))).2.2⟩])
   simp only [List.length_append,List.length_cons,List.length_nil] at this ⊢
   omega
theorem qR (l:List Pt) (h6:l.length=6) (i:Nat) (hi:i<3) (es:List (Int×Int)) (out:List Tr) (ho:out.length<1000000)
  (h:∀ o:List Tr,o.length=out.length+1→Ev (fun k=>dE k (l.map sC) o (i+1)) (uK l es o)) :
  Ev (fun k=>dE k (l.map sC) out i) (uK l (((jI i:Nat),(jJ i:Nat))::es) out):=by
 have hp:jI i<3∧jJ i<3:=by unfold jI jJ;constructor <;> split <;> decide
 have e1:=nE l (jI i:Nat) (jJ i:Nat) (by omega) (by omega) (by omega) (by omega)
 have e2:=nE l (3+(jI i:Nat)) (3+(jJ i:Nat)) (by omega) (by omega) (by omega) (by omega)
 rw [Int.add_comm 3,Int.add_comm 3] at e2
 refine cR (fun k=>by simp only [dE];rw [if_pos hi]) ?_
 rw [show ((3:Int)+(jI i:Nat))=(jI i:Nat)+3 by omega,show ((3:Int)+(jJ i:Nat))=(jJ i:Nat)+3 by omega]
 refine Ev.bind e1 (Ev.bind e2 (Ev.bind (kE _ _ _ _ _ _) ?_))
 unfold uK
 by_cases z:gD (cG (cL l (jI i:Nat) (jJ i:Nat)) (cL l ((jI i:Nat)+3) ((jJ i:Nat)+3)))=true
 ·rw [if_pos z];exact bA z (bU _)
 ·rw [if_neg z]
  refine bH z (Ev.bind (fD _ _ _ _ _ _) (bA ho ?_))
  exact h _ (by simp)
def DL:List kI:=[⟨0,1⟩,⟨0,2⟩,⟨1,2⟩]
theorem DM:Ev (fun k=>impl_edgesOf.f k 3) DL:=by
 refine ⟨20,fun k hk=>?_⟩
 obtain ⟨m,rfl⟩:∃ m,k=m+20:=⟨k-20,by omega⟩
 simp only [impl_edgesOf.f]
 simp [gI,gJ,wrap64,DL]
theorem qS (l:List Pt) (h6:l.length=6) (i:Nat) (hi:i<3) (a b:Int) (hab:iX DL (i:Int)=⟨a,b⟩) (h0:0≤a∧a<3∧0≤b∧b<3) (es:List (Int×Int)) (out:List Tr) (ho:out.length<1000000)
  (h:∀ o:List Tr,o.length=out.length+1→Ev (fun k=>dL k l DL o ((i+1:Nat):Int)) (uK l es o)) :
  Ev (fun k=>dL k l DL out (i:Int)) (uK l ((a,b)::es) out):=by
 refine cR (fun k=>by simp only [dL,hab];rw [if_pos (show (i:Int)<((DL.length:Nat):Int) by show (i:Int)<3;omega),if_pos (show 0≤(i:Int)∧0≤a∧a<3∧0≤b∧b<3 by omega)]) ?_
 refine Ev.bind (uJ l a b) (Ev.bind (uJ l (a+3) (b+3)) (Ev.bind (iV _ _ _ _ _ _) ?_))
 unfold uK
 by_cases z:gD (cG (cL l a b) (cL l (a+3) (b+3)))=true
 ·rw [if_pos z];exact bA z (bU _)
 ·rw [if_neg z]
  refine bH z (Ev.bind (jC _ _ _ _ _ _) (bA ho ?_))
  exact h _ (by simp)
theorem CN (a b c d e f:Int):impl_area.f a b c d e f=some (oV a b c d e f):=by
 simp only [impl_area.f,oV,nB,nC,oU,rL]
 congr 2
 grind
theorem BC (l:List Pt) (hs:mA l) (i:Int) (h0:0≤i) (h1:i≤3):EJ (l.map sC) i=some (oV (pt l i).f0 (pt l i).f1 (pt l (i+1)).f0 (pt l (i+1)).f1 (pt l (i+2)).f0 (pt l (i+2)).f1==0):=by
 have hl:=hs.1
 unfold EJ tr
 rw [mB l i h0 (by omega),mB l (i+1) (by omega) (by omega),mB l (i+2) (by omega) (by omega)]
 exact xM _ _ _ (hs.2.1 i h0 (by omega)) (hs.2.1 (i+1) (by omega) (by omega)) (hs.2.1 (i+2) (by omega) (by omega))
def rN (l:List Pt) (i:Int):Int:=oV (pt l i).f0 (pt l i).f1 (pt l (i+1)).f0 (pt l (i+1)).f1 (pt l (i+2)).f0 (pt l (i+2)).f1
open Classical in
noncomputable def kQ (l:List Pt):List Tr×Bool:=if mA l then if rN l 0=0 then ([],false) else if rN l 3=0 then ([],false) else uK l [(0,1),(0,2),(1,2)] [] else ([],false)
theorem xN (l:List Pt):(kQ l).1.length≤3:=by
 unfold kQ
 split
 ·split
  ·exact Nat.zero_le _
  ·split
   ·exact Nat.zero_le _
   ·exact sS l _ _
 ·exact Nat.zero_le _
theorem lQ (l:List Pt) (hl:l.length≤1099511627776):Ev (fun k=>spec_DesarguesOf.f k l) (kQ l):=by
 obtain ⟨s,h1,h2,h3⟩:=sD l hl
 simp only [spec_DesarguesOf.f]
 refine Ev.bind h1 ?_
 unfold kQ
 by_cases hs:mA l
 ·have e:=h3 (h2.2 hs)
  rw [if_pos hs]
  refine bA (h2.2 hs) (bA (by rw [e,List.length_map];exact hs.1) ?_)
  rw [e,BC l hs 0 (by omega) (by omega)]
  simp only [Option.bind_some]
  by_cases z:rN l 0=0
  ·rw [if_pos z];exact bA (by simpa [rN] using z) (bU _)
  ·rw [if_neg z]
   refine bH (by simpa [rN] using z) ?_
   rw [BC l hs 3 (by omega) (by omega)]
   simp only [Option.bind_some]
   by_cases z:rN l 3=0
   ·rw [if_pos z];exact bA (by simpa [rN] using z) (bU _)
   ·rw [if_neg z]
    refine bH (by simpa [rN] using z) ?_
    refine qR l hs.1 0 (by omega) _ [] (by simp) (fun o1 ho1=>qR l hs.1 1 (by omega) _ o1 (by rw [ho1];simp) (fun o2 ho2=>qR l hs.1 2 (by omega) _ o2 (by rw [ho2,ho1];simp) (fun o3 ho3=>?_)))
    exact cR (f:=fun _=>some (o3,true)) (fun k=>by simp only [dE];rw [if_neg (by omega)]) (bU _)
 ·rw [if_neg hs]
  exact bH (fun h=>hs (h2.1 h)) (bU _)
theorem lR (l:List Pt) (hl:l.length≤1099511627776):Ev (fun k=>impl_DesarguesOf.f k l) (kQ l):=by
 obtain ⟨b,h1,h2⟩:=vP l hl
 simp only [impl_DesarguesOf.f]
 refine Ev.bind h1 ?_
 unfold kQ
 by_cases hs:mA l
 ·rw [if_pos hs]
  refine bA (h2.2 hs) (bA hs.1 ?_)
  simp only [ar,CN,Option.bind_some]
  by_cases z:rN l 0=0
  ·rw [if_pos z];exact bA z (bU _)
  ·rw [if_neg z]
   refine bH z ?_
   by_cases z:rN l 3=0
   ·rw [if_pos z];exact bA z (bU _)
   ·rw [if_neg z]
    refine bH z (Ev.bind DM ?_)
    refine qS l hs.1 0 (by omega) 0 1 rfl (by omega) _ [] (by simp) (fun o1 ho1=>qS l hs.1 1 (by omega) 0 2 rfl (by omega) _ o1 (by rw [ho1];simp) (fun o2 ho2=>qS l hs.1 2 (by omega) 1 2 rfl (by omega) _ o2 (by rw [ho2,ho1];simp) (fun o3 ho3=>?_)))
    exact cR (f:=fun _=>some (o3,true)) (fun k=>by simp only [dL];rw [if_neg (show ¬ (((2+1:Nat):Int)<((DL.length:Nat):Int)) by decide)]) (bU _)
 ·rw [if_neg hs]
  exact bH (fun h=>hs (h2.1 h)) (bU _)
theorem xO (l:List Pt) (h:(kQ l).2=true):mA l:=by
 unfold kQ at h
 by_cases hs:mA l
 ·exact hs
 ·rw [if_neg hs] at h;cases h
def jG (a b c d e f g h i:Int):Bool:=(spec_AreOnOne.f a b c d e f g h i).getD false
theorem uL (a b c d e f g h i:Int):spec_AreOnOne.f a b c d e f g h i=some (jG a b c d e f g h i):=by
 unfold jG
 simp only [spec_AreOnOne.f,kH _ _ _ 100000 (show (0:Int)≤100000 by omega) (by omega),Option.bind_some]
 split
 ·split
  ·split <;> rfl
  ·rfl
 ·rfl
theorem jV (a b c d e f g h i:Int):impl_AreOnOne.f a b c d e f g h i=some (jG a b c d e f g h i):=by
 unfold jG
 simp only [spec_AreOnOne.f,kH _ _ _ 100000 (show (0:Int)≤100000 by omega) (by omega),Option.bind_some,impl_AreOnOne.f,rM 100000 _ (show (0:Int)≤100000 by omega) (by omega),List.all_cons,List.all_nil,Bool.and_true,pK]
 cases fY a b c 100000 <;> cases fY d e f 100000 <;> cases fY g h i 100000 <;> simp
def oW (x y z:Int×Int×Int):Bool:=if gD (cG x y)=true then false else if gD (cG x z)=true then false else if gD (cG y z)=true then false else jG x.1 x.2.1 x.2.2 y.1 y.2.1 y.2.2 z.1 z.2.1 z.2.2
noncomputable def iY (l:List Pt):Bool:=if (kQ l).2=true then oW (cL l 0 3) (cL l 1 4) (cL l 2 5) else false
theorem pU (l:List Pt) (hl:l.length≤1099511627776):Ev (fun k=>spec_ArePerspective.f k l) (iY l):=by
 simp only [spec_ArePerspective.f]
 refine Ev.bind (lQ l hl) ?_
 unfold iY
 by_cases hd:(kQ l).2=true
 ·rw [if_pos hd]
  refine bA hd ?_
  have hs:=xO l hd
  have h6:=hs.1
  obtain ⟨s,h1,h2,h3⟩:=sD l hl
  have e:=h3 (h2.2 hs)
  refine Ev.bind h1 (bA (by rw [e,List.length_map];exact hs.1) ?_)
  rw [e]
  refine Ev.bind (nE l 0 3 (by omega) (by omega) (by omega) (by omega)) (Ev.bind (nE l 1 4 (by omega) (by omega) (by omega) (by omega)) (Ev.bind (nE l 2 5 (by omega) (by omega) (by omega) (by omega)) (Ev.bind (kE _ _ _ _ _ _) ?_)))
  unfold oW
  by_cases z:gD (cG (cL l 0 3) (cL l 1 4))=true
  ·rw [if_pos z];exact bA z (bU _)
  ·rw [if_neg z]
   refine bH z (Ev.bind (kE _ _ _ _ _ _) ?_)
   by_cases z:gD (cG (cL l 0 3) (cL l 2 5))=true
   ·rw [if_pos z];exact bA z (bU _)
   ·rw [if_neg z]
    refine bH z (Ev.bind (kE _ _ _ _ _ _) ?_)
    by_cases z:gD (cG (cL l 1 4) (cL l 2 5))=true
    ·rw [if_pos z];exact bA z (bU _)
    ·rw [if_neg z]
     exact bH z (xI (uL _ _ _ _ _ _ _ _ _))
 ·rw [if_neg hd]
  exact bH hd (bU _)
theorem gS (l:List Pt) (hl:l.length≤1099511627776):Ev (fun k=>impl_ArePerspective.f k l) (iY l):=by
 simp only [impl_ArePerspective.f]
 refine Ev.bind (lR l hl) ?_
 unfold iY
 by_cases hd:(kQ l).2=true
 ·rw [if_pos hd]
  have hs:=xO l hd
  refine bA hd (bA hs.1 ?_)
  refine Ev.bind (uJ l 0 3) (Ev.bind (uJ l 1 4) (Ev.bind (uJ l 2 5) (Ev.bind (iV _ _ _ _ _ _) ?_)))
  unfold oW
  by_cases z:gD (cG (cL l 0 3) (cL l 1 4))=true
  ·rw [if_pos z];exact bA z (bU _)
  ·rw [if_neg z]
   refine bH z (Ev.bind (iV _ _ _ _ _ _) ?_)
   by_cases z:gD (cG (cL l 0 3) (cL l 2 5))=true
   ·rw [if_pos z];exact bA z (bU _)
   ·rw [if_neg z]
    refine bH z (Ev.bind (iV _ _ _ _ _ _) ?_)
    by_cases z:gD (cG (cL l 1 4) (cL l 2 5))=true
    ·rw [if_pos z];exact bA z (bU _)
    ·rw [if_neg z]
     exact bH z (xI (jV _ _ _ _ _ _ _ _ _))
 ·rw [if_neg hd]
  exact bH hd (bU _)
abbrev gP (l:List Pt) (i:Int):Pt:=aA l i
def pZ (p q r:Pt):Int:=oV p.f0 p.f1 q.f0 q.f1 r.f0 r.f1
theorem BD (t:Int×Int×Int) (p:Pt):pQ t p=(wrap64 (t.1*p.f0+t.2.1*p.f1+t.2.2)==0):=by
 unfold pQ impl_isOnLine.f
 simp only [Option.getD_some,rJ,rK]
theorem yH {a b c d:Int} (ha:-20≤a∧a≤20) (hb:-20≤b∧b≤20) (hc:-20≤c∧c≤20) (hd:-20≤d∧d≤20) (hne:¬ (a=c∧b=d)) :
  ∃ g x y z:Int,g≠0∧fV a b 1 c d 1=(x,y,z)∧x*g=b-d∧y*g=c-a∧z*g=a*d-b*c∧x.natAbs≤40∧y.natAbs≤40∧z.natAbs≤800:=by
 have f1:fY a b 1 1000000=true:=by rw [gH];omega
 have f2:fY c d 1 1000000=true:=by rw [gH];omega
 have hz1:(a*d).natAbs≤20*20:=dK (by omega) (by omega)
 have hz2:(b*c).natAbs≤20*20:=dK (by omega) (by omega)
 unfold fV
 rw [if_pos f1,if_pos f2]
 simp only [Int.mul_one,Int.one_mul]
 unfold lA
 generalize hZ:a*d-b*c=Z
 have hZb:Z.natAbs≤800:=by omega
 generalize hX:b-d=X
 generalize hY:c-a=Y
 have hXb:X.natAbs≤40:=by omega
 have hYb:Y.natAbs≤40:=by omega
 have hxy:¬ (X=0∧Y=0):=by omega
 have d1:(Int.gcd (Int.gcd X Y) Z:Int)∣X:=Int.dvd_trans (Int.gcd_dvd_left _ _) (Int.gcd_dvd_left _ _)
 have d2:(Int.gcd (Int.gcd X Y) Z:Int)∣Y:=Int.dvd_trans (Int.gcd_dvd_left _ _) (Int.gcd_dvd_right _ _)
 have d3:(Int.gcd (Int.gcd X Y) Z:Int)∣Z:=Int.gcd_dvd_right _ _
 generalize hg:(Int.gcd (Int.gcd X Y) Z:Int)=g at d1 d2 d3
 have hg0:g≠0:=by
  rintro rfl
  rw [Int.zero_dvd] at d1 d2
  exact hxy ⟨d1,d2⟩
 rw [if_neg hg0]
 obtain ⟨x,rfl⟩:=d1
 obtain ⟨y,rfl⟩:=d2
 obtain ⟨z,rfl⟩:=d3
 rw [Int.mul_tdiv_cancel_left _ hg0,Int.mul_tdiv_cancel_left _ hg0,Int.mul_tdiv_cancel_left _ hg0]
 have small:∀ u:Int,u.natAbs≤(g*u).natAbs:=fun u=>by
  rw [Int.natAbs_mul]
  exact Nat.le_mul_of_pos_left _ (by omega)
 have sx:=small x
 have sy:=small y
 have sz:=small z
 refine ⟨g,x,y,z,hg0,?_,Int.mul_comm _ _,Int.mul_comm _ _,Int.mul_comm _ _,by omega,by omega,by omega⟩
 rw [fX x (by omega),fX y (by omega),fX z (by omega)]
theorem uM (p:Pt):iO p=true↔(-20≤p.f0∧p.f0≤20)∧(-20≤p.f1∧p.f1≤20):=by simp [iO,wK]
theorem rO (l:List Pt) (i j:Int) (h:iN l i j=false):¬ ((gP l i).f0=(gP l j).f0∧(gP l i).f1=(gP l j).f1):=by
 rintro ⟨h1,h2⟩
 unfold iN at h
 rw [h1,h2] at h
 simp at h
theorem tK (l:List Pt) (i j:Int) (p:Pt) (hi:iO (gP l i)=true) (hj:iO (gP l j)=true) (hp:iO p=true) (hne:iN l i j=false):pQ (cL l i j) p=(pZ (gP l i) (gP l j) p==0):=by
 rw [uM] at hi hj hp
 obtain ⟨g,x,y,z,hg,hc,hx,hy,hz,bx,by_,bz⟩:=yH hi.1 hi.2 hj.1 hj.2 (rO l i j hne)
 have e:cL l i j=(x,y,z):=hc
 rw [BD,e]
 unfold pZ oV
 generalize (gP l i).f0=a at *
 generalize (gP l i).f1=b at *
 generalize (gP l j).f0=c at *
 generalize (gP l j).f1=d at *
 generalize p.f0=u at *
 generalize p.f1=v at *
 have m1:(x*u).natAbs≤40*20:=dK bx (by omega)
 have m2:(y*v).natAbs≤40*20:=dK by_ (by omega)
 have m3:(a*d).natAbs≤20*20:=dK (by omega) (by omega)
 have m4:(a*v).natAbs≤20*20:=dK (by omega) (by omega)
 have m5:(c*v).natAbs≤20*20:=dK (by omega) (by omega)
 have m6:(c*b).natAbs≤20*20:=dK (by omega) (by omega)
 have m7:(u*b).natAbs≤20*20:=dK (by omega) (by omega)
 have m8:(u*d).natAbs≤20*20:=dK (by omega) (by omega)
 simp only
 rw [fX (x*u+y*v+z) (by omega),fX _ (by omega)]
 have key:(x*u+y*v+z)*g=a*d-a*v+c*v-c*b+u*b-u*d:=by grind
 rw [← key,Bool.eq_iff_iff,beq_iff_eq,beq_iff_eq,Int.mul_eq_zero]
 exact ⟨.inl,fun h=>h.resolve_right hg⟩
theorem wM (l:List Pt) (hs:mA l) (i j k:Int) (hi:0≤i∧i<6) (hj:0≤j∧j<6) (hk:0≤k∧k<6):DS (l.map sC) i j k=some (pZ (gP l i) (gP l j) (gP l k)==0):=by
 have hl:=hs.1
 unfold DS vF
 rw [mB l i hi.1 (by omega),mB l j hj.1 (by omega),mB l k hk.1 (by omega)]
 exact xM _ _ _ (hs.2.1 i hi.1 (by omega)) (hs.2.1 j hj.1 (by omega)) (hs.2.1 k hk.1 (by omega))
theorem pL (l:List Pt) (a b:Int) (ha:0≤a) (ha':a<l.length) (hb:0≤b) (hb':b<l.length):Ev (fun k=>rH k (vF (l.map sC) a) (vF (l.map sC) b)) (cL l a b):=by
 simp only [rH,vF,mB l a ha ha',mB l b hb hb']
 exact fD _ _ _ _ _ _
theorem tL (l:List Pt) (a b:Int):Ev (fun k=>uC k (tJ l a) (tJ l b)) (cL l a b):=uI _ _ _ _
def uN (l:List Pt) (i j p q:Int):Int×Int×Int:=cG (cL l i j) (cL l p q)
theorem uO (l:List Pt) (i j p q:Int):Ev (fun k=>xF k l i j p q) (uN l i j p q):=by
 simp only [xF]
 exact Ev.bind (tL l i j) (Ev.bind (tL l p q) (jC _ _ _ _ _ _))
def nF (l:List Pt) (i:Int):Bool:=pZ (gP l 3) (gP l 4) (gP l i)==0||pZ (gP l 0) (gP l 1) (gP l (3+i))==0
def mC (l:List Pt):Bool:=nF l 0||(nF l 1||nF l 2)
def yL (l:List Pt):List Tr:=[trOf (uN l 0 4 1 3),trOf (uN l 0 5 2 3),trOf (uN l 1 5 2 4)]
open Classical in
noncomputable def oX (l:List Pt):List Tr×Bool :=
 if mA l then if pZ (gP l 0) (gP l 1) (gP l 2)=0 then if pZ (gP l 3) (gP l 4) (gP l 5)=0 then if mC l=true then ([],false) else if gD (cG (cL l 0 1) (cL l 3 4))=true then ([],false) else (yL l,true) else ([],false) else ([],false) else ([],false)
theorem xP (l:List Pt):(oX l).1.length≤3:=by
 unfold oX
 repeat' split
 all_goals first|exact Nat.zero_le _|exact Nat.le_refl _
theorem sE (l:List Pt) (h6:l.length=6) (i:Nat) (hi:i<3) (out:List Tr) (ho:out.length<1000000) (r:List Tr×Bool)
  (h:Ev (fun k=>eS k (l.map sC) (out++[trOf (uN l (pp i 0) (pp i 1) (pp i 2) (pp i 3))]) (i+1)) r):Ev (fun k=>eS k (l.map sC) out i) r:=by
 have b0:=sQ i 0
 have b1:=sQ i 1
 have b2:=sQ i 2
 have b3:=sQ i 3
 refine cR (fun k=>by simp only [eS];rw [if_pos hi]) ?_
 exact Ev.bind (pL l _ _ (by omega) (by omega) (by omega) (by omega)) (Ev.bind (pL l _ _ (by omega) (by omega) (by omega) (by omega)) (Ev.bind (fD _ _ _ _ _ _) (bA ho h)))
theorem sF (l:List Pt) (hs:mA l) (i:Nat) (hi:i<3) (a b:Int×Int×Int) (r:List Tr×Bool)
  (h1:nF l (i:Int)=true→r=([],false)) (h:nF l (i:Int)=false→Ev (fun k=>eT k (l.map sC) a b (i+1)) r):Ev (fun k=>eT k (l.map sC) a b i) r:=by
 refine cR (fun k=>by simp only [eT];rw [if_pos hi,wM l hs 3 4 i (by omega) (by omega) (by omega),wM l hs 0 1 (3+i) (by omega) (by omega) (by omega)]) ?_
 simp only [Option.bind_some]
 unfold nF at h1 h
 cases e1:(pZ (gP l 3) (gP l 4) (gP l (i:Int))==0) with
 | true=>rw [h1 (by rw [e1];rfl)];exact bA rfl (bU _)
 | false =>
  refine bH (by decide) ?_
  cases e2:(pZ (gP l 0) (gP l 1) (gP l (3+(i:Int)))==0) with
  | true=>rw [h1 (by rw [e2,Bool.or_true])];exact bA rfl (bU _)
  | false=>exact bH (by decide) (h (by rw [e1,e2];rfl))
theorem uP (l:List Pt) (hl:l.length≤1099511627776):Ev (fun k=>spec_PappusOf.f k l) (oX l):=by
 obtain ⟨s,h1,h2,h3⟩:=sD l hl
 simp only [spec_PappusOf.f]
 refine Ev.bind h1 ?_
 unfold oX
 by_cases hs:mA l
 ·have e:=h3 (h2.2 hs)
  have h6:=hs.1
  rw [if_pos hs]
  refine bA (h2.2 hs) (bA (by rw [e,List.length_map];exact hs.1) ?_)
  rw [e,wM l hs 0 1 2 (by omega) (by omega) (by omega)]
  simp only [Option.bind_some]
  by_cases z:pZ (gP l 0) (gP l 1) (gP l 2)=0
  ·rw [if_pos z]
   refine bA (by simpa using z) ?_
   rw [wM l hs 3 4 5 (by omega) (by omega) (by omega)]
   simp only [Option.bind_some]
   by_cases z:pZ (gP l 3) (gP l 4) (gP l 5)=0
   ·rw [if_pos z]
    refine bA (by simpa using z) (Ev.bind (pL l 0 1 (by omega) (by omega) (by omega) (by omega)) (Ev.bind (pL l 3 4 (by omega) (by omega) (by omega) (by omega)) ?_))
    refine sF l hs 0 (by omega) _ _ _ (fun hb=>if_pos (by unfold mC;rw [show nF l 0=true from hb];rfl)) (fun hb0=>?_)
    refine sF l hs 1 (by omega) _ _ _ (fun hb=>if_pos (by unfold mC;rw [show nF l 1=true from hb];simp)) (fun hb1=>?_)
    refine sF l hs 2 (by omega) _ _ _ (fun hb=>if_pos (by unfold mC;rw [show nF l 2=true from hb];simp)) (fun hb2=>?_)
    rw [if_neg (show ¬ mC l=true by unfold mC;rw [show nF l 0=false from hb0,show nF l 1=false from hb1,show nF l 2=false from hb2];decide)]
    refine cR (fun k=>by simp only [eT];rw [if_neg (by omega)]) ?_
    refine Ev.bind (kE _ _ _ _ _ _) ?_
    by_cases z:gD (cG (cL l 0 1) (cL l 3 4))=true
    ·rw [if_pos z];exact bA z (bU _)
    ·rw [if_neg z]
     refine bH z ?_
     refine sE l h6 0 (by omega) [] (by simp) _ (sE l h6 1 (by omega) _ (by simp) _ (sE l h6 2 (by omega) _ (by simp) _ ?_))
     exact cR (f:=fun _=>some (yL l,true)) (fun k=>by simp only [eS];rw [if_neg (by omega)];rfl) (bU _)
   ·rw [if_neg z];exact bH (by simpa using z) (bU _)
  ·rw [if_neg z];exact bH (by simpa using z) (bU _)
 ·rw [if_neg hs]
  exact bH (fun h=>hs (h2.1 h)) (bU _)
theorem wN (p q:Pt):pZ p q p=0∧pZ p q q=0:=by
 unfold pZ oV
 constructor
 ·rw [show p.f0*q.f1-p.f0*p.f1+q.f0*p.f1-q.f0*p.f1+p.f0*p.f1-p.f0*q.f1=0 by grind];exact w64 (by omega) (by omega)
 ·rw [show p.f0*q.f1-p.f0*q.f1+q.f0*q.f1-q.f0*p.f1+q.f0*p.f1-q.f0*q.f1=0 by grind];exact w64 (by omega) (by omega)
theorem BE (l:List Pt) (h:l.length=6):l=[gP l 0,gP l 1,gP l 2,gP l 3,gP l 4,gP l 5]:=by
 match l,h with
 | [a,b,c,d,e,f],_=>rfl
theorem DN (l:List Pt) (hs:mA l) (h1:pZ (gP l 0) (gP l 1) (gP l 2)=0) (h2:pZ (gP l 3) (gP l 4) (gP l 5)=0):(l.any fun p=>pQ (cL l 0 1) p&&pQ (cL l 3 4) p)=mC l:=by
 have h6:=hs.1
 have fit:∀ i:Int,0≤i→i<6→iO (gP l i)=true:=fun i h0 h1=>hs.2.1 i h0 (by omega)
 have o1:∀ i:Int,0≤i→i<6→pQ (cL l 0 1) (gP l i)=(pZ (gP l 0) (gP l 1) (gP l i)==0):=fun i a b=>tK l 0 1 _ (fit 0 (by omega) (by omega)) (fit 1 (by omega) (by omega)) (fit i a b) (hs.2.2 0 1 (by omega) (by omega) (by omega))
 have o2:∀ i:Int,0≤i→i<6→pQ (cL l 3 4) (gP l i)=(pZ (gP l 3) (gP l 4) (gP l i)==0):=fun i a b=>tK l 3 4 _ (fit 3 (by omega) (by omega)) (fit 4 (by omega) (by omega)) (fit i a b) (hs.2.2 3 4 (by omega) (by omega) (by omega))
 have e:(l.any fun p=>pQ (cL l 0 1) p&&pQ (cL l 3 4) p)=([gP l 0,gP l 1,gP l 2,gP l 3,gP l 4,gP l 5].any fun p=>pQ (cL l 0 1) p&&pQ (cL l 3 4) p):=congrArg (fun m:List Pt=>m.any fun p=>pQ (cL l 0 1) p&&pQ (cL l 3 4) p) (BE l h6)
 rw [e]
 simp only [List.any_cons,List.any_nil,Bool.or_false,o1 0 (by omega) (by omega),o1 1 (by omega) (by omega),o1 2 (by omega) (by omega),o1 3 (by omega) (by omega),o1 4 (by omega) (by omega),o1 5 (by omega) (by omega),o2 0 (by omega) (by omega),o2 1 (by omega) (by omega),o2 2 (by omega) (by omega),o2 3 (by omega) (by omega),o2 4 (by omega) (by omega),o2 5 (by omega) (by omega)]
 rw [(wN (gP l 0) (gP l 1)).1,(wN (gP l 0) (gP l 1)).2,(wN (gP l 3) (gP l 4)).1,(wN (gP l 3) (gP l 4)).2,h1,h2]
 unfold mC nF
 rw [show (3:Int)+0=3 from rfl,show (3:Int)+1=4 from rfl,show (3:Int)+2=5 from rfl]
 cases (pZ (gP l 3) (gP l 4) (gP l 0)==0) <;> cases (pZ (gP l 3) (gP l 4) (gP l 1)==0) <;> cases (pZ (gP l 3) (gP l 4) (gP l 2)==0) <;> cases (pZ (gP l 0) (gP l 1) (gP l 3)==0) <;> cases (pZ (gP l 0) (gP l 1) (gP l 4)==0) <;> cases (pZ (gP l 0) (gP l 1) (gP l 5)==0) <;> rfl
theorem uQ (l:List Pt) (hl:l.length≤1099511627776):Ev (fun k=>impl_PappusOf.f k l) (oX l):=by
 obtain ⟨b,h1,h2⟩:=vP l hl
 simp only [impl_PappusOf.f]
 refine Ev.bind h1 ?_
 unfold oX
 by_cases hs:mA l
 ·have h6:=hs.1
  rw [if_pos hs]
  refine bA (h2.2 hs) (bA hs.1 ?_)
  refine Ev.bind (tL l 0 1) (Ev.bind (tL l 3 4) ?_)
  have fit:∀ i:Int,0≤i→i<6→iO (gP l i)=true:=fun i h0 h1=>hs.2.1 i h0 (by omega)
  have o1:pQ (cL l 0 1) (tJ l 2)=(pZ (gP l 0) (gP l 1) (gP l 2)==0):=tK l 0 1 _ (fit 0 (by omega) (by omega)) (fit 1 (by omega) (by omega)) (fit 2 (by omega) (by omega)) (hs.2.2 0 1 (by omega) (by omega) (by omega))
  have o2:pQ (cL l 3 4) (tJ l 5)=(pZ (gP l 3) (gP l 4) (gP l 5)==0):=tK l 3 4 _ (fit 3 (by omega) (by omega)) (fit 4 (by omega) (by omega)) (fit 5 (by omega) (by omega)) (hs.2.2 3 4 (by omega) (by omega) (by omega))
  rw [o1,o2]
  by_cases z:pZ (gP l 0) (gP l 1) (gP l 2)=0
  ·rw [if_pos z]
   refine bA (by simpa using z) ?_
   by_cases z2:pZ (gP l 3) (gP l 4) (gP l 5)=0
   ·rw [if_pos z2,DN l hs z z2]
    refine bA (by simpa using z2) (Ev.bind (iV _ _ _ _ _ _) ?_)
    by_cases q:gD (cG (cL l 0 1) (cL l 3 4))=true
    ·have e:(if mC l=true then (([]:List Tr),false) else if gD (cG (cL l 0 1) (cL l 3 4))=true then ([],false) else (yL l,true))=([],false):=by rw [if_pos q];exact ite_self _
     rw [e]
     exact bA q (bU _)
    ·refine bH q ?_
     by_cases w:mC l=true
     ·rw [if_pos w];exact bA w (bU _)
     ·rw [if_neg w,if_neg q]
      exact bH w (Ev.bind (uO l 0 4 1 3) (Ev.bind (uO l 0 5 2 3) (Ev.bind (uO l 1 5 2 4) (bU _))))
   ·rw [if_neg z2];exact bH (by simpa using z2) (bU _)
  ·rw [if_neg z];exact bH (by simpa using z) (bU _)
 ·rw [if_neg hs]
  exact bH (fun h=>hs (h2.1 h)) (bU _)
end Go.Proofs.Ytldcckcljjlglaa.Pure

namespace Go.Proofs.Ytldcckcljjlglaa.Inc
set_option linter.unusedVariables false
def det (a1 a2 a3 b1 b2 b3 c1 c2 c3:Int):Int:=a1*(b2*c3-b3*c2)-a2*(b1*c3-b3*c1)+a3*(b1*c2-b2*c1)
def AB (a b c d:Int):Int:=b-d
def AC (a b c d:Int):Int:=c-a
def AD (a b c d:Int):Int:=a*d-b*c
def EQ (a1 a2 a3 b1 b2 b3:Int):Int:=a2*b3-a3*b2
def ER (a1 a2 a3 b1 b2 b3:Int):Int:=a3*b1-a1*b3
def ES (a1 a2 a3 b1 b2 b3:Int):Int:=a1*b2-a2*b1
def br (a b c d e f:Int):Int:=det a b 1 c d 1 e f 1
theorem sI {k0 k1 k2 a1 a2 a3 b1 b2 b3 c1 c2 c3 A1 A2 A3 B1 B2 B3 C1 C2 C3:Int} (ha1:a1*k0=A1) (ha2:a2*k0=A2) (ha3:a3*k0=A3) (hb1:b1*k1=B1) (hb2:b2*k1=B2) (hb3:b3*k1=B3) (hc1:c1*k2=C1) (hc2:c2*k2=C2) (hc3:c3*k2=C3) :
  det a1 a2 a3 b1 b2 b3 c1 c2 c3*(k0*k1*k2)=det A1 A2 A3 B1 B2 B3 C1 C2 C3:=by
 subst ha1 ha2 ha3 hb1 hb2 hb3 hc1 hc2 hc3
 unfold det
 grind
theorem CO (a b c d e f g h:Int) :
  EQ (AB a b c d) (AC a b c d) (AD a b c d) (AB e f g h) (AC e f g h) (AD e f g h)=br a b c d g h*e-br a b c d e f*g ∧
  ER (AB a b c d) (AC a b c d) (AD a b c d) (AB e f g h) (AC e f g h) (AD e f g h)=br a b c d g h*f-br a b c d e f*h ∧
  ES (AB a b c d) (AC a b c d) (AD a b c d) (AB e f g h) (AC e f g h) (AD e f g h)=br a b c d g h-br a b c d e f:=by
 unfold EQ ER ES AB AC AD br det
 refine ⟨?_,?_,?_⟩ <;> grind
theorem tB (z t la mu nu rho B1 B2 B3 B4 aed aeb afd bfc bce afc bfe bdc bde dce:Int) (hz:z≠0) (ht:t≠0)
  (h1:aed = -B3) (h2:aeb = -B2) (h3:t*afd = -(rho*B3)) (h4:z*t*bfc=la*(nu*B1+rho*B2)) (h5:z*bce = -(la*B2)) (h6:z*t*afc = -(mu*(nu*B1+rho*B2))) (h7:t*bfe=nu*B4) (h8:z*bdc=la*B1) (h9:bde=B4) (h10:z*dce = -(la*B3)-mu*B4) :
  -(aed*afd*bfc*bce)-aed*afc*bfe*bdc+aed*afc*bfc*bde+aeb*afd*bfc*dce=0:=by
 have e1:z*t*(z*t)*(aed*afd*bfc*bce)=(aed)*(t*afd)*(z*t*bfc)*(z*bce):=by grind
 have e2:z*t*(z*t)*(aed*afc*bfe*bdc)=(aed)*(z*t*afc)*(t*bfe)*(z*bdc):=by grind
 have e3:z*t*(z*t)*(aed*afc*bfc*bde)=(aed)*(z*t*afc)*(z*t*bfc)*bde:=by grind
 have e4:z*t*(z*t)*(aeb*afd*bfc*dce)=(aeb)*(t*afd)*(z*t*bfc)*(z*dce):=by grind
 rw [h1,h3,h4,h5] at e1
 rw [h1,h6,h7,h8] at e2
 rw [h1,h6,h4,h9] at e3
 rw [h2,h3,h4,h10] at e4
 have e:z*t*(z*t)*(-(aed*afd*bfc*bce)-aed*afc*bfe*bdc+aed*afc*bfc*bde+aeb*afd*bfc*dce)=0:=by
  rw [Int.mul_add,Int.mul_add,Int.mul_sub,Int.mul_neg,h1,h2,h9,e1,e2,e3,e4]
  grind
 have hzt:z*t*(z*t)≠0:=by
  intro h
  rcases Int.mul_eq_zero.1 h with h|h <;> rcases Int.mul_eq_zero.1 h with h|h <;> contradiction
 exact (Int.mul_eq_zero.1 e).resolve_left hzt
theorem BF (a b c d e f:Int) (a' b' c' d' e' f':Int) (aed aeb afd afc bfe bfc:Int) :
  det (aed*b-aeb*d) (aed*b'-aeb*d') (aed-aeb) (afd*c-afc*d) (afd*c'-afc*d') (afd-afc) (bfe*c-bfc*e) (bfe*c'-bfc*e') (bfe-bfc) =
   -(aed*afd*bfc*br b b' c c' e e')-aed*afc*bfe*br b b' d d' c c'+aed*afc*bfc*br b b' d d' e e'+aeb*afd*bfc*br d d' c c' e e':=by
 unfold br det
 grind
theorem CX {ax ay bx by_ cx cy:Int} (h:br ax ay bx by_ cx cy=0) (hne:¬ (ax=bx∧ay=by_)):∃ z la mu:Int,z≠0∧z=la+mu∧z*cx=la*ax+mu*bx∧z*cy=la*ay+mu*by_:=by
 unfold br det at h
 by_cases hx:ax=bx
 ·have hy:ay≠by_:=fun e=>hne ⟨hx,e⟩
  refine ⟨by_-ay,by_-cy,cy-ay,by omega,by omega,?_,by grind⟩
  subst hx
  grind
 ·refine ⟨bx-ax,bx-cx,cx-ax,by omega,by omega,by grind,?_⟩
  grind
theorem DO (ax ay bx by_ cx cy dx dy ex ey fx fy:Int) (h1:br ax ay bx by_ cx cy=0) (h2:br dx dy ex ey fx fy=0) (n1:¬ (ax=bx∧ay=by_)) (n2:¬ (dx=ex∧dy=ey)) :
  -(br ax ay ex ey dx dy*br ax ay fx fy dx dy*br bx by_ fx fy cx cy*br bx by_ cx cy ex ey)-br ax ay ex ey dx dy*br ax ay fx fy cx cy*br bx by_ fx fy ex ey*br bx by_ dx dy cx cy
   + br ax ay ex ey dx dy*br ax ay fx fy cx cy*br bx by_ fx fy cx cy*br bx by_ dx dy ex ey+br ax ay ex ey bx by_*br ax ay fx fy dx dy*br bx by_ fx fy cx cy*br dx dy cx cy ex ey=0:=by
 obtain ⟨z,la,mu,hz,es,ex_,ey_⟩:=CX h1 n1
 obtain ⟨t,nu,rho,ht,fs,fx_,fy_⟩:=CX h2 n2
 clear h1 h2 n1 n2
 refine tB z t la mu nu rho (br ax ay bx by_ dx dy) (br ax ay bx by_ ex ey) (br ax ay dx dy ex ey) (br bx by_ dx dy ex ey) _ _ _ _ _ _ _ _ _ _ hz ht ?_ ?_ ?_ ?_ ?_ ?_ ?_ ?_ rfl ?_
 ·unfold br det;grind
 ·unfold br det;grind
 ·have e:t*br ax ay fx fy dx dy=br ax ay dx dy dx dy*nu+br ax ay ex ey dx dy*rho:=by unfold br det;grind
  rw [e];unfold br det;grind
 ·have e:t*br bx by_ fx fy cx cy=br bx by_ dx dy cx cy*nu+br bx by_ ex ey cx cy*rho:=by unfold br det;grind
  have e1:z*br bx by_ dx dy cx cy=br bx by_ dx dy ax ay*la:=by unfold br det;grind
  have e2:z*br bx by_ ex ey cx cy=br bx by_ ex ey ax ay*la:=by unfold br det;grind
  have e3:br bx by_ dx dy ax ay=br ax ay bx by_ dx dy:=by unfold br det;grind
  have e4:br bx by_ ex ey ax ay=br ax ay bx by_ ex ey:=by unfold br det;grind
  rw [e3] at e1
  rw [e4] at e2
  grind
 ·unfold br det;grind
 ·have e:t*br ax ay fx fy cx cy=br ax ay dx dy cx cy*nu+br ax ay ex ey cx cy*rho:=by unfold br det;grind
  have e1:z*br ax ay dx dy cx cy=br ax ay dx dy bx by_*mu:=by unfold br det;grind
  have e2:z*br ax ay ex ey cx cy=br ax ay ex ey bx by_*mu:=by unfold br det;grind
  have e3:br ax ay dx dy bx by_ = -(br ax ay bx by_ dx dy):=by unfold br det;grind
  have e4:br ax ay ex ey bx by_ = -(br ax ay bx by_ ex ey):=by unfold br det;grind
  rw [e3] at e1
  rw [e4] at e2
  grind
 ·unfold br det;grind
 ·unfold br det;grind
 ·unfold br det;grind
theorem tC (A B C D E F g h i j k l:Int) :
  det (A*g-B*i) (A*h-B*j) (A-B) (C*g-D*k) (C*h-D*l) (C-D) (E*i-F*k) (E*j-F*l) (E-F)=br g h i j k l*(A*D*E-B*C*F):=by
 unfold br det
 grind
theorem rP (a b c d e f g h i j k l:Int) :
  br a b c d i j*br a b e f g h*br c d e f k l-br a b c d g h*br a b e f k l*br c d e f i j
   = -(br a b c d e f*det (AB a b g h) (AC a b g h) (AD a b g h) (AB c d i j) (AC c d i j) (AD c d i j) (AB e f k l) (AC e f k l) (AD e f k l)):=by
 unfold br det AB AC AD
 grind
end Go.Proofs.Ytldcckcljjlglaa.Inc

namespace Go.Proofs.Ytldcckcljjlglaa.Pure
open Go.RowKit Go.Proofs.Ytldcckcljjlglaa.P Go.Proofs.YtldcckcljjlglaaW.PrintWords Go.Proofs.YtldcckcljjlglaaW.PrintLast Go.Proofs.Ytldcckcljjlglaa.Com Go.Proofs.Ytldcckcljjlglaa.Inc
set_option linter.unusedSimpArgs false
set_option linter.unusedVariables false
theorem uR:wrap64 0=0:=by unfold wrap64;omega
theorem yM (x y z:Int):lA (-x) (-y) (-z)=(wrap64 (-(lA x y z).1),wrap64 (-(lA x y z).2.1),wrap64 (-(lA x y z).2.2)):=by
 unfold lA
 rw [Int.gcd_neg,Int.neg_gcd,Int.gcd_neg]
 split
 ·simp only [Int.neg_zero,uR]
 ·simp only [Int.neg_tdiv,DI]
theorem xQ (a b c d e f:Int):fV d e f a b c=(wrap64 (-(fV a b c d e f).1),wrap64 (-(fV a b c d e f).2.1),wrap64 (-(fV a b c d e f).2.2)):=by
 unfold fV
 by_cases h1:fY a b c 1000000=true
 ·by_cases h2:fY d e f 1000000=true
  ·rw [if_pos h1,if_pos h2,if_pos h2,if_pos h1,← yM]
   congr 1 <;> grind
  ·simp only [if_pos h1,if_neg h2,Int.neg_zero,uR]
 ·by_cases h2:fY d e f 1000000=true
  ·simp only [if_neg h1,if_pos h2,Int.neg_zero,uR]
  ·simp only [if_neg h1,if_neg h2,Int.neg_zero,uR]
theorem rQ (X Y Z:Int) (hX:X.natAbs≤4611686018427387904) (hY:Y.natAbs≤4611686018427387904) (hZ:Z.natAbs≤4611686018427387904) :
  ∃ g x y z:Int,lA X Y Z=(x,y,z)∧x*g=X∧y*g=Y∧z*g=Z∧(g=0→x=0∧y=0∧z=0)∧x.natAbs≤X.natAbs∧y.natAbs≤Y.natAbs∧z.natAbs≤Z.natAbs:=by
 unfold lA
 have d1:(Int.gcd (Int.gcd X Y) Z:Int)∣X:=Int.dvd_trans (Int.gcd_dvd_left _ _) (Int.gcd_dvd_left _ _)
 have d2:(Int.gcd (Int.gcd X Y) Z:Int)∣Y:=Int.dvd_trans (Int.gcd_dvd_left _ _) (Int.gcd_dvd_right _ _)
 have d3:(Int.gcd (Int.gcd X Y) Z:Int)∣Z:=Int.gcd_dvd_right _ _
 generalize (Int.gcd (Int.gcd X Y) Z:Int)=g at d1 d2 d3
 by_cases hg0:g=0
 ·subst hg0
  rw [Int.zero_dvd] at d1 d2 d3
  subst d1 d2 d3
  exact ⟨0,0,0,0,by rw [if_pos rfl],rfl,rfl,rfl,fun _=>⟨rfl,rfl,rfl⟩,Nat.le_refl _,Nat.le_refl _,Nat.le_refl _⟩
 ·rw [if_neg hg0]
  obtain ⟨x,rfl⟩:=d1
  obtain ⟨y,rfl⟩:=d2
  obtain ⟨z,rfl⟩:=d3
  rw [Int.mul_tdiv_cancel_left _ hg0,Int.mul_tdiv_cancel_left _ hg0,Int.mul_tdiv_cancel_left _ hg0]
  have small:∀ u:Int,u.natAbs≤(g*u).natAbs:=fun u=>by
   rw [Int.natAbs_mul]
   exact Nat.le_mul_of_pos_left _ (by omega)
  have sx:=small x
  have sy:=small y
  have sz:=small z
  refine ⟨g,x,y,z,?_,Int.mul_comm _ _,Int.mul_comm _ _,Int.mul_comm _ _,fun h=>absurd h hg0,sx,sy,sz⟩
  rw [fX x (by omega),fX y (by omega),fX z (by omega)]
theorem zX (a b c d e f:Int):wrap64 (wrap64 (wrap64 (a*(fV a b c d e f).1)+wrap64 (b*(fV a b c d e f).2.1))+wrap64 (c*(fV a b c d e f).2.2))=0:=by
 simp only [rJ,rK]
 unfold fV
 by_cases h1:fY a b c 1000000=true
 ·by_cases h2:fY d e f 1000000=true
  ·rw [if_pos h1, if_pos h2]
   rw [gH] at h1 h2
   obtain ⟨ha,hb,hc⟩:=h1
   obtain ⟨hd,he,hf⟩:=h2
   have b1:=wL hb hf hc he
   have b2:=wL hc hd ha hf
   have b3:=wL ha he hb hd
   obtain ⟨g,x,y,z,e0,ex,ey,ez,h0,_⟩:=rQ (b*f-c*e) (c*d-a*f) (a*e-b*d) (by omega) (by omega) (by omega)
   rw [e0]
   have key:a*x+b*y+c*z=0:=by
    by_cases hg:g=0
    ·obtain ⟨rfl,rfl,rfl⟩:=h0 hg
     simp
    ·have e1:(a*x+b*y+c*z)*g=0:=by
      have e2:(a*x+b*y+c*z)*g=a*(x*g)+b*(y*g)+c*(z*g):=by grind
      rw [e2,ex,ey,ez]
      grind
     exact (Int.mul_eq_zero.1 e1).resolve_right hg
   show wrap64 (a*x+b*y+c*z)=0
   rw [key,uR]
  ·rw [if_pos h1,if_neg h2];simp only [Int.mul_zero,Int.add_zero,uR]
 ·rw [if_neg h1];simp only [Int.mul_zero,Int.add_zero,uR]
theorem sJ (a b c d e f g h i:Int):jG a b c d e f g h i=((fY a b c 100000&&(fY d e f 100000&&fY g h i 100000))&&(wrap64 (det a b c d e f g h i)==0)):=by
 unfold jG det
 simp only [spec_AreOnOne.f,kH _ _ _ 100000 (show (0:Int)≤100000 by omega) (by omega),Option.bind_some,pK,rJ,rK,nB,nC,oU,rL]
 cases fY a b c 100000 <;> cases fY d e f 100000 <;> cases fY g h i 100000 <;> simp
theorem yN (a b c d e f g h i:Int):jG g h i a b c d e f=jG a b c d e f g h i:=by
 rw [sJ,sJ,show det g h i a b c d e f=det a b c d e f g h i from by unfold det;grind]
 cases fY a b c 100000 <;> cases fY d e f 100000 <;> cases fY g h i 100000 <;> rfl
theorem jW {u v:Int} {A B:Nat} (hu:u.natAbs≤A) (hv:v.natAbs≤B):(u-v).natAbs≤A+B:=by omega
theorem CP {u v:Int} {A B:Nat} (hu:u.natAbs≤A) (hv:v.natAbs≤B):(u+v).natAbs≤A+B:=by omega
def tD (n:Int):Prop:=n.natAbs≤100000
theorem qT {a b c d e f g h i:Int} (ha:tD a) (hb:tD b) (hc:tD c) (hd:tD d) (he:tD e) (hf:tD f) (hg:tD g) (hh:tD h) (hi:tD i):jG a b c d e f g h i=true↔det a b c d e f g h i=0:=by
 unfold tD at ha hb hc hd he hf hg hh hi
 rw [sJ]
 have f1:fY a b c 100000=true:=by rw [gH];omega
 have f2:fY d e f 100000=true:=by rw [gH];omega
 have f3:fY g h i 100000=true:=by rw [gH];omega
 rw [f1,f2,f3]
 have p:∀ {u v:Int},u.natAbs≤100000→v.natAbs≤100000→(u*v).natAbs≤100000*100000:=fun hu hv=>dK hu hv
 have m:∀ {u v:Int},u.natAbs≤100000→v.natAbs≤20000000000→(u*v).natAbs≤100000*20000000000:=fun hu hv=>dK hu hv
 have q1:=p he hi
 have q2:=p hf hh
 have q3:=p hd hi
 have q4:=p hf hg
 have q5:=p hd hh
 have q6:=p he hg
 have r1:=m ha (v:=e*i-f*h) (jW q1 q2)
 have r2:=m hb (v:=d*i-f*g) (jW q3 q4)
 have r3:=m hc (v:=d*h-e*g) (jW q5 q6)
 have w:wrap64 (det a b c d e f g h i)=det a b c d e f g h i:=fX _ (Nat.le_trans (CP (jW r1 r2) r3) (by decide))
 rw [w]
 simp
theorem xR {x1 y1 z1 x2 y2 z2:Int} (b1:x1.natAbs≤40) (b2:y1.natAbs≤40) (b3:z1.natAbs≤800) (d1:x2.natAbs≤40) (d2:y2.natAbs≤40) (d3:z2.natAbs≤800) :
  ∃ h x y z:Int,fV x1 y1 z1 x2 y2 z2=(x,y,z)∧x*h=y1*z2-z1*y2∧y*h=z1*x2-x1*z2∧z*h=x1*y2-y1*x2∧(h=0→x=0∧y=0∧z=0)∧tD x∧tD y∧tD z:=by
 have f1:fY x1 y1 z1 1000000=true:=by rw [gH];omega
 have f2:fY x2 y2 z2 1000000=true:=by rw [gH];omega
 have q1:(y1*z2).natAbs≤40*800:=dK b2 d3
 have q2:(z1*y2).natAbs≤800*40:=dK b3 d2
 have q3:(z1*x2).natAbs≤800*40:=dK b3 d1
 have q4:(x1*z2).natAbs≤40*800:=dK b1 d3
 have q5:(x1*y2).natAbs≤40*40:=dK b1 d2
 have q6:(y1*x2).natAbs≤40*40:=dK b2 d1
 obtain ⟨h,x,y,z,e,ex,ey,ez,h0,bx,by_,bz⟩:=rQ (y1*z2-z1*y2) (z1*x2-x1*z2) (x1*y2-y1*x2) (Nat.le_trans (jW q1 q2) (by decide)) (Nat.le_trans (jW q3 q4) (by decide)) (Nat.le_trans (jW q5 q6) (by decide))
 refine ⟨h,x,y,z,?_,ex,ey,ez,h0,Nat.le_trans bx (Nat.le_trans (jW q1 q2) (by decide)),Nat.le_trans by_ (Nat.le_trans (jW q3 q4) (by decide)),Nat.le_trans bz (Nat.le_trans (jW q5 q6) (by decide))⟩
 unfold fV
 rw [if_pos f1,if_pos f2,e]
theorem oY {x h g1 g2 a b c d:Int} (ex:x*h=a*b-c*d):x*(h*(g1*g2))=(a*g1)*(b*g2)-(c*g1)*(d*g2):=by
 rw [← Int.mul_assoc,ex]
 grind
section
variable {l : List Pt} (hs : mA l)
include hs
theorem rR {i:Int} (hi:0≤i∧i<6):(-20≤(gP l i).f0∧(gP l i).f0≤20)∧(-20≤(gP l i).f1∧(gP l i).f1≤20):=(uM _).1 (hs.2.1 i hi.1 (by have:=hs.1;omega))
theorem yO {i j:Int} (h0:0≤i) (hij:i<j) (h6:j<6):¬ ((gP l i).f0=(gP l j).f0∧(gP l i).f1=(gP l j).f1):=rO l i j (hs.2.2 i j h0 hij (by have:=hs.1;omega))
theorem tM {i j k:Int} (hi:0≤i∧i<6) (hj:0≤j∧j<6) (hk:0≤k∧k<6) :
  oV (gP l i).f0 (gP l i).f1 (gP l j).f0 (gP l j).f1 (gP l k).f0 (gP l k).f1=br (gP l i).f0 (gP l i).f1 (gP l j).f0 (gP l j).f1 (gP l k).f0 (gP l k).f1:=by
 have f1:=rR hs hi
 have f2:=rR hs hj
 have f3:=rR hs hk
 generalize (gP l i).f0=a at *
 generalize (gP l i).f1=b at *
 generalize (gP l j).f0=c at *
 generalize (gP l j).f1=d at *
 generalize (gP l k).f0=e at *
 generalize (gP l k).f1=f at *
 have p:∀ {u v:Int},u.natAbs≤20→v.natAbs≤20→(u*v).natAbs≤20*20:=fun hu hv=>dK hu hv
 have q1:=p (u:=a) (v:=d) (by omega) (by omega)
 have q2:=p (u:=a) (v:=f) (by omega) (by omega)
 have q3:=p (u:=c) (v:=f) (by omega) (by omega)
 have q4:=p (u:=c) (v:=b) (by omega) (by omega)
 have q5:=p (u:=e) (v:=b) (by omega) (by omega)
 have q6:=p (u:=e) (v:=d) (by omega) (by omega)
 unfold oV
 rw [fX _ (by omega)]
 unfold br det
 grind
theorem rS {i j:Int} (h0:0≤i) (hij:i<j) (h6:j<6):∃ g x y z:Int,g≠0∧cL l i j=(x,y,z)∧x*g=AB (gP l i).f0 (gP l i).f1 (gP l j).f0 (gP l j).f1∧y*g=AC (gP l i).f0 (gP l i).f1 (gP l j).f0 (gP l j).f1∧z*g=AD (gP l i).f0 (gP l i).f1 (gP l j).f0 (gP l j).f1∧x.natAbs≤40∧y.natAbs≤40∧z.natAbs≤800:=by
 have f1:=rR hs (i:=i) ⟨h0,by omega⟩
 have f2:=rR hs (i:=j) ⟨by omega,h6⟩
 exact yH f1.1 f1.2 f2.1 f2.2 (yO hs h0 hij h6)
theorem pM {i j p q:Int} (hi:0≤i) (hij:i<j) (hj:j<6) (hp:0≤p) (hpq:p<q) (hq:q<6):∃ k x y z:Int,cG (cL l i j) (cL l p q)=(x,y,z) ∧
  x*k=br (gP l i).f0 (gP l i).f1 (gP l j).f0 (gP l j).f1 (gP l q).f0 (gP l q).f1*(gP l p).f0-br (gP l i).f0 (gP l i).f1 (gP l j).f0 (gP l j).f1 (gP l p).f0 (gP l p).f1*(gP l q).f0 ∧
  y*k=br (gP l i).f0 (gP l i).f1 (gP l j).f0 (gP l j).f1 (gP l q).f0 (gP l q).f1*(gP l p).f1-br (gP l i).f0 (gP l i).f1 (gP l j).f0 (gP l j).f1 (gP l p).f0 (gP l p).f1*(gP l q).f1 ∧
  z*k=br (gP l i).f0 (gP l i).f1 (gP l j).f0 (gP l j).f1 (gP l q).f0 (gP l q).f1-br (gP l i).f0 (gP l i).f1 (gP l j).f0 (gP l j).f1 (gP l p).f0 (gP l p).f1 ∧
  (k=0→x=0∧y=0∧z=0)∧tD x∧tD y∧tD z:=by
 obtain ⟨g1,x1,y1,z1,hg1,e1,a1,a2,a3,b1,b2,b3⟩:=rS hs hi hij hj
 obtain ⟨g2,x2,y2,z2,hg2,e2,c1,c2,c3,d1,d2,d3⟩:=rS hs hp hpq hq
 obtain ⟨m1,m2,m3⟩:=CO (gP l i).f0 (gP l i).f1 (gP l j).f0 (gP l j).f1 (gP l p).f0 (gP l p).f1 (gP l q).f0 (gP l q).f1
 obtain ⟨h,x,y,z,e,ex,ey,ez,h0,s1,s2,s3⟩:=xR b1 b2 b3 d1 d2 d3
 refine ⟨h*(g1*g2),x,y,z,?_,?_,?_,?_,?_,s1,s2,s3⟩
 ·rw [e1,e2];exact e
 ·rw [← m1];unfold EQ;rw [← a2,← a3,← c2,← c3];exact oY ex
 ·rw [← m2];unfold ER;rw [← a1,← a3,← c1,← c3];exact oY ey
 ·rw [← m3];unfold ES;rw [← a1,← a2,← c1,← c2];exact oY ez
 ·intro hk
  refine h0 ?_
  rcases Int.mul_eq_zero.1 hk with h|h
  ·exact h
  ·rcases Int.mul_eq_zero.1 h with h|h
   ·exact absurd h hg1
   ·exact absurd h hg2
end
theorem wO {k0 k1 k2 x0 y0 z0 x1 y1 z1 x2 y2 z2:Int} (n0:k0=0→x0=0∧y0=0∧z0=0) (n1:k1=0→x1=0∧y1=0∧z1=0) (n2:k2=0→x2=0∧y2=0∧z2=0)
  (h:det x0 y0 z0 x1 y1 z1 x2 y2 z2*(k0*k1*k2)=0):det x0 y0 z0 x1 y1 z1 x2 y2 z2=0:=by
 rcases Int.mul_eq_zero.1 h with h|h
 ·exact h
 ·rcases Int.mul_eq_zero.1 h with h|h
  ·rcases Int.mul_eq_zero.1 h with h|h
   ·obtain ⟨rfl,rfl,rfl⟩:=n0 h;unfold det;grind
   ·obtain ⟨rfl,rfl,rfl⟩:=n1 h;unfold det;grind
  ·obtain ⟨rfl,rfl,rfl⟩:=n2 h;unfold det;grind
theorem BG {l:List Pt} {u:List Tr} (h:oX l=(u,true)):mA l∧pZ (gP l 0) (gP l 1) (gP l 2)=0∧pZ (gP l 3) (gP l 4) (gP l 5)=0∧u=yL l:=by
 unfold oX at h
 by_cases hs:mA l
 ·rw [if_pos hs] at h
  by_cases h1:pZ (gP l 0) (gP l 1) (gP l 2)=0
  ·rw [if_pos h1] at h
   by_cases h2:pZ (gP l 3) (gP l 4) (gP l 5)=0
   ·rw [if_pos h2] at h
    split at h
    ·cases h
    ·split at h
     ·cases h
     ·exact ⟨hs,h1,h2,(Prod.mk.inj h).1.symm⟩
   ·rw [if_neg h2] at h;cases h
  ·rw [if_neg h1] at h;cases h
 ·rw [if_neg hs] at h;cases h
theorem yP {l:List Pt} {u:List Tr} (h:oX l=(u,true)):u.length=3∧jG (aI u 0).f0 (aI u 0).f1 (aI u 0).f2 (aI u 1).f0 (aI u 1).f1 (aI u 1).f2 (aI u 2).f0 (aI u 2).f1 (aI u 2).f2=true:=by
 obtain ⟨hs,h1,h2,rfl⟩:=BG h
 refine ⟨rfl,?_⟩
 have b1:=(tM hs (i:=0) (j:=1) (k:=2) (by omega) (by omega) (by omega)).symm.trans h1
 have b2:=(tM hs (i:=3) (j:=4) (k:=5) (by omega) (by omega) (by omega)).symm.trans h2
 obtain ⟨k0,x0,y0,z0,e0,p0,q0,r0,n0,sx0,sy0,sz0⟩:=pM hs (i:=0) (j:=4) (p:=1) (q:=3) (by omega) (by omega) (by omega) (by omega) (by omega) (by omega)
 obtain ⟨k1,x1,y1,z1,e1,p1,q1,r1,n1,sx1,sy1,sz1⟩:=pM hs (i:=0) (j:=5) (p:=2) (q:=3) (by omega) (by omega) (by omega) (by omega) (by omega) (by omega)
 obtain ⟨k2,x2,y2,z2,e2,p2,q2,r2,n2,sx2,sy2,sz2⟩:=pM hs (i:=1) (j:=5) (p:=2) (q:=4) (by omega) (by omega) (by omega) (by omega) (by omega) (by omega)
 have g0:aI (yL l) 0=⟨x0,y0,z0⟩:=by show trOf (uN l 0 4 1 3)=_;unfold uN;rw [e0];rfl
 have g1:aI (yL l) 1=⟨x1,y1,z1⟩:=by show trOf (uN l 0 5 2 3)=_;unfold uN;rw [e1];rfl
 have g2:aI (yL l) 2=⟨x2,y2,z2⟩:=by show trOf (uN l 1 5 2 4)=_;unfold uN;rw [e2];rfl
 rw [g0,g1,g2]
 refine (qT sx0 sy0 sz0 sx1 sy1 sz1 sx2 sy2 sz2).2 (wO n0 n1 n2 ?_)
 rw [sI p0 q0 r0 p1 q1 r1 p2 q2 r2,BF (a:=0) (f:=0) (a':=0) (f':=0)]
 exact DO _ _ _ _ _ _ _ _ _ _ _ _ b1 b2 (yO hs (by omega) (by omega) (by omega)) (yO hs (by omega) (by omega) (by omega))
theorem uS {l:List Pt} {v:List Tr} (h:kQ l=(v,true)):mA l∧rN l 0≠0∧rN l 3≠0∧gD (cG (cL l 0 1) (cL l 3 4))=false∧gD (cG (cL l 0 2) (cL l 3 5))=false∧gD (cG (cL l 1 2) (cL l 4 5))=false ∧
  v=[trOf (cG (cL l 0 1) (cL l 3 4)),trOf (cG (cL l 0 2) (cL l 3 5)),trOf (cG (cL l 1 2) (cL l 4 5))]:=by
 unfold kQ at h
 by_cases hs:mA l
 ·rw [if_pos hs] at h
  by_cases h1:rN l 0=0
  ·rw [if_pos h1] at h;cases h
  ·rw [if_neg h1] at h
   by_cases h2:rN l 3=0
   ·rw [if_pos h2] at h;cases h
   ·rw [if_neg h2] at h
    simp only [uK,show (0:Int)+3=3 from rfl,show (1:Int)+3=4 from rfl,show (2:Int)+3=5 from rfl] at h
    by_cases z1:gD (cG (cL l 0 1) (cL l 3 4))=true
    ·rw [if_pos z1] at h;cases h
    ·rw [if_neg z1] at h
     by_cases z2:gD (cG (cL l 0 2) (cL l 3 5))=true
     ·rw [if_pos z2] at h;cases h
     ·rw [if_neg z2] at h
      by_cases z3:gD (cG (cL l 1 2) (cL l 4 5))=true
      ·rw [if_pos z3] at h;cases h
      ·rw [if_neg z3] at h
       exact ⟨hs,h1,h2,by simpa using z1,by simpa using z2,by simpa using z3,(Prod.mk.inj h).1.symm⟩
 ·rw [if_neg hs] at h;cases h
theorem qU {t:Int×Int×Int} {x y z:Int} (e:t=(x,y,z)) (h:gD t=false):¬ (x=0∧y=0∧z=0):=by
 rintro ⟨rfl,rfl,rfl⟩
 subst e
 cases h
theorem CQ {l:List Pt} {v:List Tr} (h:kQ l=(v,true)) (c1:gD (cG (cL l 0 3) (cL l 1 4))=false) (c2:gD (cG (cL l 0 3) (cL l 2 5))=false) (c3:gD (cG (cL l 1 4) (cL l 2 5))=false) :
  v.length=3∧jG (aI v 0).f0 (aI v 0).f1 (aI v 0).f2 (aI v 1).f0 (aI v 1).f1 (aI v 1).f2 (aI v 2).f0 (aI v 2).f1 (aI v 2).f2=iY l:=by
 obtain ⟨hs,a1,a2,m1,m2,m3,rfl⟩:=uS h
 refine ⟨rfl,?_⟩
 have b1:br (gP l 0).f0 (gP l 0).f1 (gP l 1).f0 (gP l 1).f1 (gP l 2).f0 (gP l 2).f1≠0:=fun e=>a1 ((tM hs (i:=0) (j:=1) (k:=2) (by omega) (by omega) (by omega)).trans e)
 have b2:br (gP l 3).f0 (gP l 3).f1 (gP l 4).f0 (gP l 4).f1 (gP l 5).f0 (gP l 5).f1≠0:=fun e=>a2 ((tM hs (i:=3) (j:=4) (k:=5) (by omega) (by omega) (by omega)).trans e)
 obtain ⟨k0,x0,y0,z0,e0,p0,q0,r0,n0,sx0,sy0,sz0⟩:=pM hs (i:=0) (j:=1) (p:=3) (q:=4) (by omega) (by omega) (by omega) (by omega) (by omega) (by omega)
 obtain ⟨k1,x1,y1,z1,e1,p1,q1,r1,n1,sx1,sy1,sz1⟩:=pM hs (i:=0) (j:=2) (p:=3) (q:=5) (by omega) (by omega) (by omega) (by omega) (by omega) (by omega)
 obtain ⟨k2,x2,y2,z2,e2,p2,q2,r2,n2,sx2,sy2,sz2⟩:=pM hs (i:=1) (j:=2) (p:=4) (q:=5) (by omega) (by omega) (by omega) (by omega) (by omega) (by omega)
 obtain ⟨g3,u3,v3,w3,hg3,e3,p3,q3,r3,s3,s3',s3''⟩:=rS hs (i:=0) (j:=3) (by omega) (by omega) (by omega)
 obtain ⟨g4,u4,v4,w4,hg4,e4,p4,q4,r4,s4,s4',s4''⟩:=rS hs (i:=1) (j:=4) (by omega) (by omega) (by omega)
 obtain ⟨g5,u5,v5,w5,hg5,e5,p5,q5,r5,s5,s5',s5''⟩:=rS hs (i:=2) (j:=5) (by omega) (by omega) (by omega)
 have t0:k0≠0:=fun e=>qU e0 m1 (n0 e)
 have t1:k1≠0:=fun e=>qU e1 m2 (n1 e)
 have t2:k2≠0:=fun e=>qU e2 m3 (n2 e)
 have hp:iY l=jG u3 v3 w3 u4 v4 w4 u5 v5 w5:=by
  unfold iY
  rw [h,if_pos rfl]
  unfold oW
  rw [c1,c2,c3,e3,e4,e5]
  rfl
 have d0:aI [trOf (cG (cL l 0 1) (cL l 3 4)),trOf (cG (cL l 0 2) (cL l 3 5)),trOf (cG (cL l 1 2) (cL l 4 5))] 0=⟨x0,y0,z0⟩:=by show trOf (cG (cL l 0 1) (cL l 3 4))=_;rw [e0];rfl
 have d1:aI [trOf (cG (cL l 0 1) (cL l 3 4)),trOf (cG (cL l 0 2) (cL l 3 5)),trOf (cG (cL l 1 2) (cL l 4 5))] 1=⟨x1,y1,z1⟩:=by show trOf (cG (cL l 0 2) (cL l 3 5))=_;rw [e1];rfl
 have d2:aI [trOf (cG (cL l 0 1) (cL l 3 4)),trOf (cG (cL l 0 2) (cL l 3 5)),trOf (cG (cL l 1 2) (cL l 4 5))] 2=⟨x2,y2,z2⟩:=by show trOf (cG (cL l 1 2) (cL l 4 5))=_;rw [e2];rfl
 rw [d0,d1,d2,hp]
 have i1:=qT sx0 sy0 sz0 sx1 sy1 sz1 sx2 sy2 sz2
 have i2:=qT (a:=u3) (b:=v3) (c:=w3) (d:=u4) (e:=v4) (f:=w4) (g:=u5) (h:=v5) (i:=w5) (by unfold tD;omega) (by unfold tD;omega) (by unfold tD;omega) (by unfold tD;omega) (by unfold tD;omega) (by unfold tD;omega) (by unfold tD;omega) (by unfold tD;omega) (by unfold tD;omega)
 have s1:=sI p0 q0 r0 p1 q1 r1 p2 q2 r2
 have s2:=sI p3 q3 r3 p4 q4 r4 p5 q5 r5
 rw [tC,rP,← s2] at s1
 have nz:∀ {a b:Int},a≠0→b≠0→a*b≠0:=fun ha hb hab=>(Int.mul_eq_zero.1 hab).elim ha hb
 have K1:=nz (nz t0 t1) t2
 have K2:=nz (nz hg3 hg4) hg5
 have both:det x0 y0 z0 x1 y1 z1 x2 y2 z2=0↔det u3 v3 w3 u4 v4 w4 u5 v5 w5=0:=by
  constructor
  ·intro e
   rw [e,Int.zero_mul] at s1
   have s1:=s1.symm
   rcases Int.mul_eq_zero.1 s1 with z|z
   ·exact absurd z b2
   ·rw [Int.neg_eq_zero] at z
    rcases Int.mul_eq_zero.1 z with z|z
    ·exact absurd z b1
    ·exact (Int.mul_eq_zero.1 z).resolve_right K2
  ·intro e
   rw [e,Int.zero_mul,Int.mul_zero,Int.neg_zero,Int.mul_zero] at s1
   exact (Int.mul_eq_zero.1 s1).resolve_right K1
 exact Bool.eq_iff_iff.2 (i1.trans (both.trans i2.symm))
end Go.Proofs.Ytldcckcljjlglaa.Pure

namespace Go.Proofs.Ytldcckcljjlglaa.Pure
open Go.RowKit Go.Proofs.Ytldcckcljjlglaa.P Go.Proofs.YtldcckcljjlglaaW.PrintWords Go.Proofs.YtldcckcljjlglaaW.PrintLast Go.Proofs.Ytldcckcljjlglaa.Com
set_option linter.unusedSimpArgs false
set_option linter.unusedVariables false
theorem wP (x:Int):0≤Go.bits .and .i64 x 255∧Go.bits .and .i64 x 255≤255:=by
 have h:(BitVec.ofInt 64 x &&& BitVec.ofInt 64 255).toNat≤255:=by
  rw [BitVec.toNat_and]
  exact Nat.le_trans Nat.and_le_right (by decide)
 have e:Go.bits .and .i64 x 255=IntKind.i64.wrap (((BitVec.ofInt 64 x &&& BitVec.ofInt 64 255).toNat:Nat):Int):=rfl
 rw [e,aZ]
 generalize (BitVec.ofInt 64 x &&& BitVec.ofInt 64 255).toNat=n at h ⊢
 rw [w64 (by omega) (by omega)]
 omega
theorem BI (x:List Int) (hx:x.length≤1099511627776):∀ (d:Nat) (i h:Int),0≤i→i≤x.length→i+d=x.length→∃ h',Ev (fun k=>fO k x h i) (x,0,h'):=by
 intro d
 induction d with
 | zero =>
  intro i h h0 h1 hd
  exact ⟨h,cR (f:=fun _=>some (x,0,h)) (fun k=>by simp only [fO];rw [if_neg (by omega)]) (bU _)⟩
 | succ d ih =>
  intro i h h0 h1 hd
  by_cases c:i<4000
  ·obtain ⟨h',hE⟩:=ih (i+1) (Go.bits .and .i64 (wrap64 ((wrap64 ((wrap64 (h*131))+(wrap64 (rd x i))))+7)) 1073741823) (by omega) (by omega) (by omega)
   exact ⟨h',cR (fun k=>by simp only [fO];rw [if_pos (by omega),if_pos c,if_pos h0,w64 (x:=i+1) (by omega) (by omega)]) hE⟩
  ·exact ⟨h,cR (f:=fun _=>some (x,0,h)) (fun k=>by simp only [fO];rw [if_pos (by omega),if_neg c]) (bU _)⟩
theorem BJ (x:List Int) (hx:x.length≤1099511627776):∃ h,Ev (fun k=>spec_l1New.f k x) (x,0,h) :=
 BI x hx x.length 0 _ (by omega) (by omega) (by omega)
def wS (x:List Int) (i:Int):Prop:=0≤i∧i≤x.length
theorem CR (x:List Int) (hx:x.length≤1099511627776) (i h:Int) (hi:wS x i):∃ b j g,spec_l1Byte.f x i h=some (b,j,g)∧0≤b∧b≤255∧wS x j:=by
 obtain ⟨h0,h1⟩:=hi
 unfold spec_l1Byte.f
 by_cases c:i<(x.length:Int)
 ·rw [if_pos c,if_pos h0,w64 (x:=i+1) (by omega) (by omega)]
  exact ⟨_,_,_,rfl,(wP _).1,(wP _).2,by unfold wS;omega⟩
 ·rw [if_neg c]
  exact ⟨_,_,_,rfl,(wP _).1,(wP _).2,h0,h1⟩
theorem fF (x:List Int) (hx:x.length≤1099511627776) (i h m:Int) (hi:wS x i) (hm:0<m) (hm2:m≤256):∃ v j g,spec_l1Below.f x i h m=some (v,j,g)∧0≤v∧v<m∧wS x j:=by
 obtain ⟨b,j,g,hb,h0,h1,hj⟩:=CR x hx i h hi
 unfold spec_l1Below.f
 rw [if_neg (by omega),if_pos hm2,hb]
 simp only [Option.bind_some]
 rw [if_neg (by omega)]
 exact ⟨_,_,_,rfl,Int.tmod_nonneg _ h0,Int.tmod_lt_of_pos _ hm,hj⟩
theorem pN (x:List Int) (hx:x.length≤1099511627776) (i h m:Int) (hi:wS x i) (hm:0<m) (hm2:m≤256):∃ b j g,spec_l1Once.f x i h m=some (b,j,g)∧wS x j:=by
 obtain ⟨v,j,g,hv,_,_,hj⟩:=fF x hx i h m hi hm hm2
 unfold spec_l1Once.f
 rw [hv]
 exact ⟨_,_,_,rfl,hj⟩
theorem wQ (x:List Int) (hx:x.length≤1099511627776) (i h:Int) (hi:wS x i) (L:List Int) (h0:0<L.length) (h1:L.length≤256):∃ v j g,spec_l1PickInt.f x i h L=some (v,j,g)∧v ∈ L∧wS x j:=by
 obtain ⟨v,j,g,hv,b0,b1,hj⟩:=fF x hx i h (L.length:Int) hi (by omega) (by omega)
 unfold spec_l1PickInt.f
 rw [hv]
 simp only [Option.bind_some]
 rw [if_pos b0,if_pos b1]
 refine ⟨_,_,_,rfl,?_,hj⟩
 unfold rd
 rw [List.getD_eq_getElem?_getD,List.getElem?_eq_getElem (by omega),Option.getD_some]
 exact List.getElem_mem _
theorem uT (x:List Int) (hx:x.length≤1099511627776):∃ h,Ev (fun k=>spec_l1New.f k x) (x,0,h)∧wS x 0:=by
 obtain ⟨h,hE⟩:=BJ x hx
 exact ⟨h,hE,by unfold wS;omega⟩
end Go.Proofs.Ytldcckcljjlglaa.Pure

namespace Go.Proofs.Ytldcckcljjlglaa.P
open Go.RowKit Go.Proofs.YtldcckcljjlglaaW.PrintWords Go.Proofs.YtldcckcljjlglaaW.PrintLast Go.Proofs.YtldcckcljjlglaaW.PrintMore
attribute [local go_sem] max2_int min2_int max_two min_two max_three min_three max_four min_four
set_option linter.unusedVariables false
set_option linter.unusedSimpArgs false
/-! ### spec_l1Bit: function 90 -/
/-! ### spec_l2Sign: function 114 -/
/-! ### cmp_isNaN_int: function 167 -/
/-! ### cmp_Compare_int: function 145 -/
/-! ### impl_signOf: function 104 -/
end Go.Proofs.Ytldcckcljjlglaa.P

namespace Go.Proofs.Ytldcckcljjlglaa.Pure
open Go.RowKit Go.Proofs.Ytldcckcljjlglaa.P Go.Proofs.YtldcckcljjlglaaW.PrintWords Go.Proofs.YtldcckcljjlglaaW.PrintLast Go.Proofs.Ytldcckcljjlglaa.Com
set_option linter.unusedSimpArgs false
set_option linter.unusedVariables false
def BK (a b c d e f:Int):Int:=wrap64 ((c-a)*(f-b)-(d-b)*(e-a))
theorem zY (a b c d e f:Int):spec_l2Area.f a b c d e f=some (BK a b c d e f):=by
 simp only [spec_l2Area.f,BK,nB,nC,oU,rL]
abbrev AE:=List dB
def oZ (x:List Int) (f:Nat→Option (AE×Int×Int)):Prop:=∃ r j g,Ev f (r,j,g)∧3≤r.length∧r.length≤6∧wS x j
theorem fJ {x:List Int} {f g:Nat→Option (AE×Int×Int)} (h:∀ q,f (q+1)=g q) (hg:oZ x g):oZ x f:=by
 obtain ⟨r,j,y,hE,a⟩:=hg
 exact ⟨r,j,y,cR (f:=g) h hE,a⟩
section
variable (x : List Int) (n : Int)
theorem BL (L:AE) (hL:L.length≤6) (x5 x8 i h a b:Int) (h8:0≤x8∧x8<(L.length:Int)) (next:∀ fl:Bool,oZ x (fun q=>eJ q n L x5 fl (x8+1) x i h a b)) (e:Nat):∀ (x9:Int) (fl:Bool),0≤x9→x9+e=x8→oZ x (fun q=>eY q n L x5 fl x8 x9 x i h a b):=by
 have w8:wrap64 (x8+1)=x8+1:=w64 (by omega) (by omega)
 induction e with
 | zero =>
  intro x9 fl h9 he
  refine fJ (fun q=>?_) (next fl)
  simp only [eY]
  rw [if_neg (by omega),w8]
 | succ e ih =>
  intro x9 fl h9 he
  cases fl with
  | false =>
   refine fJ (fun q=>?_) (next false)
   simp only [eY]
   rw [if_pos (by omega),if_neg (by decide),w8]
  | true =>
   refine fJ (fun q=>?_) (ih (x9+1) (BK (aA L x9).f0 (aA L x9).f1 (aA L x8).f0 (aA L x8).f1 a b != 0) (by omega) (by omega))
   simp only [eY]
   rw [if_pos (by omega),if_pos trivial,if_pos h9,if_pos (by omega),if_pos h8.1,if_pos h8.2,zY,w64 (x:=x9+1) (by omega) (by omega)]
   rfl
theorem BM (L:AE) (hL:L.length≤6) (x5 i h a b:Int) (h5:0≤x5∧x5<12) (k0:oZ x (fun q=>dV q n L (x5+1) x i h)) (k1:oZ x (fun q=>dV q n (L++[⟨a,b⟩]) (x5+1) x i h)) (e:Nat):∀ (x8:Int) (fl:Bool),0≤x8→x8+e=(L.length:Int)→oZ x (fun q=>eJ q n L x5 fl x8 x i h a b):=by
 have w5:wrap64 (x5+1)=x5+1:=w64 (by omega) (by omega)
 have fin:∀ (x8:Int) (fl:Bool),oZ x (fun q=>eK q n L x5 fl x8 false x i h a b):=by
  intro x8 fl
  cases fl with
  | false =>
   refine fJ (fun q=>?_) k0
   simp only [eK]
   rw [if_neg (by decide),if_neg (by decide),w5]
  | true =>
   refine fJ (fun q=>?_) k1
   simp only [eK]
   rw [if_neg (by decide),if_pos trivial,if_pos (by omega),w5]
 induction e with
 | zero =>
  intro x8 fl h8 he
  refine fJ (fun q=>?_) (fin x8 fl)
  simp only [eJ]
  rw [if_neg (by omega)]
 | succ e ih =>
  intro x8 fl h8 he
  cases fl with
  | false =>
   refine fJ (g:=fun q=>eK q n L x5 false x8 false x i h a b) (fun q=>?_) (fin x8 false)
   simp only [eJ]
   rw [if_pos (by omega)]
  | true =>
   refine fJ (g:=fun q=>eK q n L x5 true x8 true x i h a b) (fun q=>?_) ?_
   ·simp only [eJ]
    rw [if_pos (by omega)]
   ·refine fJ (fun q=>?_) (BL x n L hL x5 x8 i h a b ⟨h8,by omega⟩ (fun fl'=>ih (x8+1) fl' (by omega) (by omega)) x8.toNat 0 (!(((aA L x8).f0)==a)||(!(((aA L x8).f1)==b))) (by omega) (by omega))
    simp only [eK]
    rw [if_pos trivial,if_pos h8,if_pos (by omega)]
theorem zZ (hx:x.length≤1099511627776) (hn:3≤n∧n≤6) (m:Nat):∀ (L:AE) (x5 i h:Int),0≤x5→x5+m=12→(L.length:Int)≤n→wS x i→oZ x (fun q=>dV q n L x5 x i h):=by
 have stop:∀ (L:AE) (x5 i h:Int),(L.length:Int)≤n→wS x i→oZ x (fun q=>eX q n L x5 false x i h):=by
  intro L x5 i h hL hi
  by_cases h3:(L.length:Int)<3
  ·refine ⟨[⟨0,0⟩,⟨4,1⟩,⟨1,3⟩,⟨2,2⟩],i,h,cR (f:=fun q=>some ([⟨0,0⟩,⟨4,1⟩,⟨1,3⟩,⟨2,2⟩],i,h)) (fun q=>?_) (bU _),by decide,by decide,hi⟩
   simp only [eX]
   rw [if_neg (by decide),if_pos h3]
  ·refine ⟨L,i,h,cR (f:=fun q=>some (L,i,h)) (fun q=>?_) (bU _),by omega,by omega,hi⟩
   simp only [eX]
   rw [if_neg (by decide),if_neg h3]
 induction m with
 | zero =>
  intro L x5 i h h5 hm hL hi
  refine fJ (fun q=>?_) (stop L x5 i h hL hi)
  simp only [dV]
  rw [if_neg (by omega)]
 | succ m ih =>
  intro L x5 i h h5 hm hL hi
  by_cases hl:(L.length:Int)<n
  ·obtain ⟨v1,j1,g1,e1,a1,b1,hj1⟩:=fF x hx i h 13 hi (by omega) (by omega)
   obtain ⟨v2,j2,g2,e2,a2,b2,hj2⟩:=fF x hx j1 g1 13 hj1 (by omega) (by omega)
   refine fJ (g:=fun q=>eX q n L x5 true x i h) (fun q=>?_) ?_
   ·simp only [dV]
    rw [if_pos (by omega),decide_eq_true hl]
   ·refine fJ (fun q=>?_) (BM x n L (by omega) x5 j2 g2 (v1-6) (v2-6) ⟨h5,by omega⟩ (ih L (x5+1) j2 g2 (by omega) (by omega) hL hj2) (ih (L++[⟨v1-6,v2-6⟩]) (x5+1) j2 g2 (by omega) (by omega) (by rw [List.length_append];simp only [List.length_cons,List.length_nil];omega) hj2) L.length 0 true (by omega) (by omega))
    simp only [eX]
    rw [if_pos trivial,e1,Option.bind_some,e2,Option.bind_some,w64 (x:=v1-6) (by omega) (by omega),w64 (x:=v2-6) (by omega) (by omega)]
  ·refine fJ (fun q=>?_) (stop L x5 i h hL hi)
   simp only [dV]
   rw [if_pos (by omega),decide_eq_false hl]
end
theorem sK (x:List Int) (hx:x.length≤1099511627776) (i h:Int) (hi:wS x i):oZ x (fun q=>spec_l2Draw.f q x i h):=by
 obtain ⟨v,j,g,e,a,b,hj⟩:=fF x hx i h 4 hi (by omega) (by omega)
 obtain ⟨r,j',g',hE,z⟩:=zZ x (3+v) hx ⟨by omega,by omega⟩ 12 [] 0 j g (by omega) (by omega) (by simp;omega) hj
 refine ⟨r,j',g',?_,z⟩
 simp only [spec_l2Draw.f,e,Option.bind_some]
 rw [w64 (x:=3+v) (by omega) (by omega)]
 exact hE
theorem lB (x:List Int) (hx:x.length≤1099511627776) (i h:Int) (hi:wS x i):∃ a b c j g,spec_l26Draw.f x i h=some (a,b,c,j,g)∧wS x j:=by
 obtain ⟨v1,j1,g1,e1,a1,b1,hj1⟩:=fF x hx i h 9 hi (by omega) (by omega)
 obtain ⟨v2,j2,g2,e2,a2,b2,hj2⟩:=fF x hx j1 g1 9 hj1 (by omega) (by omega)
 obtain ⟨v3,j3,g3,e3,a3,b3,hj3⟩:=fF x hx j2 g2 5 hj2 (by omega) (by omega)
 obtain ⟨o,j4,g4,e4,hj4⟩:=pN x hx j3 g3 16 hj3 (by omega) (by omega)
 simp only [spec_l26Draw.f,e1,e2,e3,e4,Option.bind_some]
 cases o with
 | false=>exact ⟨_,_,_,_,_,rfl,hj4⟩
 | true =>
  obtain ⟨p,j5,g5,e5,hp,hj5⟩:=wQ x hx j4 g4 hj4 [1000000,1000001,-100001,100000] (by decide) (by decide)
  simp only [if_true,e5,Option.bind_some]
  exact ⟨_,_,_,_,_,rfl,hj5⟩
theorem wR (x:List Int) (hx:x.length≤1099511627776):∃ a b c d e f,Ev (fun k=>spec_DrawCrossOf.f k x) (a,b,c,d,e,f):=by
 obtain ⟨h,hN,hi⟩:=uT x hx
 obtain ⟨a,b,c,j,g,e1,hj⟩:=lB x hx 0 h hi
 obtain ⟨o,j2,g2,e2,hj2⟩:=pN x hx j g 5 hj (by omega) (by omega)
 cases o with
 | true=>exact ⟨_,_,_,_,_,_,Ev.bind hN (bC e1 (bC e2 (bA rfl (bU _))))⟩
 | false =>
  obtain ⟨d,e,f,j3,g3,e3,hj3⟩:=lB x hx j2 g2 hj2
  exact ⟨_,_,_,_,_,_,Ev.bind hN (bC e1 (bC e2 (bH (by simp) (bC e3 (bU _)))))⟩
theorem yQ (x:List Int) (hx:x.length≤1099511627776):∃ a b c d e f g h i,Ev (fun k=>spec_DrawAreOnOne.f k x) (a,b,c,d,e,f,g,h,i):=by
 obtain ⟨h,hN,hi⟩:=uT x hx
 obtain ⟨a,b,c,j,g,e1,hj⟩:=lB x hx 0 h hi
 obtain ⟨a2,b2,c2,j1,g1,e1b,hj1⟩:=lB x hx j g hj
 obtain ⟨o,j2,g2,e2,hj2⟩:=pN x hx j1 g1 2 hj1 (by omega) (by omega)
 cases o with
 | true=>exact ⟨_,_,_,_,_,_,_,_,_,Ev.bind hN (bC e1 (bC e1b (bC e2 (bA rfl (bU _)))))⟩
 | false =>
  obtain ⟨d,e,f,j3,g3,e3,hj3⟩:=lB x hx j2 g2 hj2
  exact ⟨_,_,_,_,_,_,_,_,_,Ev.bind hN (bC e1 (bC e1b (bC e2 (bH (by simp) (bC e3 (bU _))))))⟩
theorem yR (x:List Int) (hx:x.length≤1099511627776):∃ a b c d e f,Ev (fun k=>spec_l2Three.f k x) (a,b,c,d,e,f):=by
 obtain ⟨h,hN,hi⟩:=uT x hx
 obtain ⟨r,j,g,hE,r3,r6,hj⟩:=sK x hx 0 h hi
 obtain ⟨v,j1,g1,e1,a1,b1,hj1⟩:=fF x hx j g 6 hj (by omega) (by omega)
 have q0:(0:Int)<(r.length:Int):=by omega
 have q1:(1:Int)<(r.length:Int):=by omega
 have q2:(2:Int)<(r.length:Int):=by omega
 by_cases c0:v=0
 ·obtain ⟨p,j2,g2,e2,hp,hj2⟩:=wQ x hx j1 g1 hj1 [1000,1001,-1001] (by decide) (by decide)
  exact ⟨_,_,_,_,_,_,Ev.bind hN (Ev.bind hE (bA q2 (bC e1 (bA c0 (bC e2 (bA q0 (bA q1 (bU _))))))))⟩
 ·by_cases c1:v=1
  ·exact ⟨_,_,_,_,_,_,Ev.bind hN (Ev.bind hE (bA q2 (bC e1 (bH c0 (bA c1 (bA q0 (bA q1 (bU _))))))))⟩
  ·by_cases c2:v=2
   ·exact ⟨_,_,_,_,_,_,Ev.bind hN (Ev.bind hE (bA q2 (bC e1 (bH c0 (bH c1 (bA c2 (bA q1 (bA q0 (bU _)))))))))⟩
   ·exact ⟨_,_,_,_,_,_,Ev.bind hN (Ev.bind hE (bA q2 (bC e1 (bH c0 (bH c1 (bH c2 (bA q0 (bA q1 (bU _)))))))))⟩
theorem vI (x:List Int) (hx:x.length≤1099511627776):∃ a b,Ev (fun k=>spec_DrawTripleOf.f k x) (a,b):=by
 obtain ⟨a,b,c,d,e,f,hE⟩:=yR x hx
 exact ⟨_,_,Ev.bind hE (bU _)⟩
theorem CS (x:List Int) (hx:x.length≤1099511627776) (p:AE) (hp:3≤p.length) (o1 o2:Int) (n:Nat):∀ (out:AE) (i:Int) (j g:Int),0≤i→i+n=3→out.length=3+i.toNat→wS x j →
  ∃ r:AE,Ev (fun k=>dW k p out i x j g o1 o2) r∧r.length=6:=by
 induction n with
 | zero =>
  intro out i j g h0 hi ho hj
  exact ⟨out,cR (f:=fun _=>some out) (fun k=>by simp only [dW];rw [if_neg (by omega)]) (bU _),by omega⟩
 | succ n ih =>
  intro out i j g h0 hi ho hj
  obtain ⟨v,j1,g1,e1,hv,hj1⟩:=wQ x hx j g hj [2,-1,3,-2] (by decide) (by decide)
  obtain ⟨o,j2,g2,e2,hj2⟩:=pN x hx j1 g1 8 hj1 (by omega) (by omega)
  have hw:wrap64 (i+1)=i+1:=w64 (by omega) (by omega)
  have h3:i<3:=by omega
  have hl:i<(p.length:Int):=by omega
  have ho2:out.length<8796093022208:=by omega
  have next:∀ q,∃ r:AE,Ev (fun k=>dW k p (out++[q]) (wrap64 (i+1)) x j2 g2 o1 o2) r∧r.length=6:=by
   intro q
   rw [hw]
   exact ih (out++[q]) (i+1) j2 g2 (by omega) (by omega) (by simp;omega) hj2
  cases o with
  | true =>
   obtain ⟨r,hr,hl6⟩:=next _
   refine ⟨r,cR (f:=fun k=>_) (fun k=>by simp only [dW,if_pos h3,if_pos h0,if_pos hl,e1,e2,Option.bind_some,spec_l26Far.f,if_true,if_pos ho2];rfl) hr,hl6⟩
  | false =>
   obtain ⟨r,hr,hl6⟩:=next _
   refine ⟨r,cR (f:=fun k=>_) (fun k=>by simp only [dW,if_pos h3,if_pos h0,if_pos hl,e1,e2,Option.bind_some,spec_l26Far.f,Bool.false_eq_true,if_false,if_pos ho2];rfl) hr,hl6⟩
theorem sL (x:List Int) (hx:x.length≤1099511627776):∃ r:AE,Ev (fun k=>spec_DrawDesarguesOf.f k x) r∧r.length≤1099511627776:=by
 obtain ⟨h,hN,hi⟩:=uT x hx
 obtain ⟨p,j,g,hE,r3,r6,hj⟩:=sK x hx 0 h hi
 obtain ⟨v1,j1,g1,e1,a1,b1,hj1⟩:=fF x hx j g 5 hj (by omega) (by omega)
 obtain ⟨v2,j2,g2,e2,a2,b2,hj2⟩:=fF x hx j1 g1 5 hj1 (by omega) (by omega)
 obtain ⟨r,hr,h6⟩:=CS x hx p r3 (wrap64 (v1-2)) (wrap64 (v2-2)) 3 [⟨(aA p 0).f0,(aA p 0).f1⟩,⟨(aA p 1).f0,(aA p 1).f1⟩,⟨(aA p 2).f0,(aA p 2).f1⟩] 0 j2 g2 (by omega) (by omega) (by simp) hj2
 have q0:(0:Int)<(p.length:Int):=by omega
 have q1:(1:Int)<(p.length:Int):=by omega
 have q2:(2:Int)<(p.length:Int):=by omega
 refine ⟨r,Ev.bind (Ev.bind hN (Ev.bind hE (bC e1 (bC e2 (bA q0 (bA q1 (bA q2 hr))))))) (bU _),by omega⟩
theorem vJ (x:List Int) (hx:x.length≤1099511627776):∃ r:AE,Ev (fun k=>spec_DrawPappusOf.f k x) r∧r.length≤1099511627776:=by
 obtain ⟨h,hN,hi⟩:=uT x hx
 obtain ⟨p,j,g,hE,r3,r6,hj⟩:=sK x hx 0 h hi
 obtain ⟨v1,j1,g1,e1,a1,b1,hj1⟩:=fF x hx j g 2 hj (by omega) (by omega)
 obtain ⟨v2,j2,g2,e2,a2,b2,hj2⟩:=fF x hx j1 g1 3 hj1 (by omega) (by omega)
 obtain ⟨v3,j3,g3,e3,a3,b3,hj3⟩:=fF x hx j2 g2 3 hj2 (by omega) (by omega)
 obtain ⟨v4,j4,g4,e4,a4,b4,hj4⟩:=fF x hx j3 g3 2 hj3 (by omega) (by omega)
 obtain ⟨v5,j5,g5,e5,a5,b5,hj5⟩:=fF x hx j4 g4 3 hj4 (by omega) (by omega)
 obtain ⟨v6,j6,g6,e6,a6,b6,hj6⟩:=fF x hx j5 g5 3 hj5 (by omega) (by omega)
 obtain ⟨o,j7,g7,e7,hj7⟩:=pN x hx j6 g6 8 hj6 (by omega) (by omega)
 obtain ⟨o2,j8,g8,e8,hj8⟩:=pN x hx j7 g7 16 hj7 (by omega) (by omega)
 have q0:(0:Int)<(p.length:Int):=by omega
 have q1:(1:Int)<(p.length:Int):=by omega
 have q2:(2:Int)<(p.length:Int):=by omega
 cases o with
 | true =>
  cases o2 with
  | true=>refine ⟨_,Ev.bind hN (Ev.bind hE (bA q0 (bC e1 (bC e2 (bA q2 (bC e3 (bC e4 (bC e5 (bC rfl (bC e6 (bC rfl (bC rfl (bC e7 (bA rfl (bA q1 (bA (by simp) (bC rfl (bC e8 (bA rfl (bA (by simp) (bU _))))))))))))))))))))),by simp⟩
  | false=>refine ⟨_,Ev.bind hN (Ev.bind hE (bA q0 (bC e1 (bC e2 (bA q2 (bC e3 (bC e4 (bC e5 (bC rfl (bC e6 (bC rfl (bC rfl (bC e7 (bA rfl (bA q1 (bA (by simp) (bC rfl (bC e8 (bH (by simp) (bU _)))))))))))))))))))),by simp⟩
 | false =>
  cases o2 with
  | true=>refine ⟨_,Ev.bind hN (Ev.bind hE (bA q0 (bC e1 (bC e2 (bA q2 (bC e3 (bC e4 (bC e5 (bC rfl (bC e6 (bC rfl (bC rfl (bC e7 (bH (by simp) (bC e8 (bA rfl (bA (by simp) (bU _)))))))))))))))))),by simp⟩
  | false=>refine ⟨_,Ev.bind hN (Ev.bind hE (bA q0 (bC e1 (bC e2 (bA q2 (bC e3 (bC e4 (bC e5 (bC rfl (bC e6 (bC rfl (bC rfl (bC e7 (bH (by simp) (bC e8 (bH (by simp) (bU _))))))))))))))))),by simp⟩
end Go.Proofs.Ytldcckcljjlglaa.Pure

namespace Go.Proofs.Ytldcckcljjlglaa.Pure
open Go.RowKit Go.Proofs.Ytldcckcljjlglaa.P Go.Proofs.YtldcckcljjlglaaW.PrintWords Go.Proofs.YtldcckcljjlglaaW.PrintLast Go.Proofs.Ytldcckcljjlglaa.Com
set_option linter.unusedSimpArgs false
set_option linter.unusedVariables false
set_option maxRecDepth 100000
theorem nG (L:List Tr) (hl:L.length≤1099511627776):Ev (fun k=>laws_sameTriples.f k L L) true:=by
 have key:∀ (d a:Nat),a+d=L.length→Ev (fun k=>dY k L L (a:Int)) true:=by
  intro d
  induction d with
  | zero=>intro a ha;exact cR (f:=fun _=>some true) (fun k=>by simp only [dY];rw [if_neg (by omega)]) (bU _)
  | succ d ih =>
   intro a ha
   refine cR (fun k=>?_) (ih (a+1) (by omega))
   simp only [dY]
   rw [if_pos (by omega),if_pos (by omega),if_pos (by omega),if_neg (by simp),w64 (by omega) (by omega)]
   rfl
 unfold laws_sameTriples.f
 exact bA rfl (key L.length 0 (by omega))
section
variable {two : List Pt} (h2 : two.length ≤ 1099511627776)
include h2
theorem yS (v:List Tr) (b:Bool) (h:b=true→iY two=false) (h':b=false→v.length=3∧jG (aI v 0).f0 (aI v 0).f1 (aI v 0).f2 (aI v 1).f0 (aI v 1).f1 (aI v 1).f2 (aI v 2).f0 (aI v 2).f1 (aI v 2).f2=iY two) :
  Ev (fun k=>dS k two v b) true:=by
 refine cR (fun k=>by simp only [dS];rfl) ?_
 cases b with
 | true =>
  refine bA rfl (Ev.bind (gS two h2) ?_)
  rw [h rfl]
  exact bU _
 | false =>
  obtain ⟨h3,e⟩:=h' rfl
  refine bH (by simp) (bA (by omega) (bA (by omega) (bA (by omega) (bC (jV _ _ _ _ _ _ _ _ _) (Ev.bind (gS two h2) ?_)))))
  rw [e]
  simp only [beq_self_eq_true]
  exact bU _
theorem BN:Ev (fun k=>dC k two (kQ two).1 (kQ two).2 false) true:=by
 refine cR (fun k=>by simp only [dC];rfl) ?_
 refine bH (by simp) ?_
 by_cases hd:(kQ two).2=true
 ·have hv:kQ two=((kQ two).1,true):=by rw [← hd]
  generalize (kQ two).1=v at hv ⊢
  obtain ⟨hs,a1,a2,m1,m2,m3,ev⟩:=uS hv
  have h6:=hs.1
  have q0:(0:Int)<(two.length:Int):=by omega
  have q1:(1:Int)<(two.length:Int):=by omega
  have q2:(2:Int)<(two.length:Int):=by omega
  have q3:(3:Int)<(two.length:Int):=by omega
  have q4:(4:Int)<(two.length:Int):=by omega
  have q5:(5:Int)<(two.length:Int):=by omega
  refine bA hd (bA q0 (bC rfl (bA q3 (bC rfl (Ev.bind (fD _ _ _ _ _ _) (bA q1 (bC rfl (bA q4 (bC rfl (Ev.bind (fD _ _ _ _ _ _) (bA q2 (bC rfl (bA q5 (bC rfl (Ev.bind (fD _ _ _ _ _ _) (Ev.bind (fD _ _ _ _ _ _) ?_))))))))))))))))
  have pz:∀ {b:Bool},b=false→iY two=b→iY two=false:=fun h e=>e.trans h
  have hp:iY two=oW (cL two 0 3) (cL two 1 4) (cL two 2 5):=by unfold iY;rw [hv,if_pos rfl]
  by_cases z1:gD (cG (cL two 0 3) (cL two 1 4))=true
  ·exact bA z1 (yS h2 v true (fun _=>by rw [hp];unfold oW;rw [if_pos z1]) (fun h=>by cases h))
  ·refine bH z1 (Ev.bind (fD _ _ _ _ _ _) ?_)
   by_cases z2:gD (cG (cL two 0 3) (cL two 2 5))=true
   ·exact bA z2 (yS h2 v true (fun _=>by rw [hp];unfold oW;rw [if_neg z1,if_pos z2]) (fun h=>by cases h))
   ·refine bH z2 (Ev.bind (fD _ _ _ _ _ _) ?_)
    refine yS h2 v (gD (cG (cL two 1 4) (cL two 2 5))) (fun z3=>by rw [hp];unfold oW;rw [if_neg z1,if_neg z2,if_pos z3]) (fun z3=>?_)
    exact CQ hv (by simpa using z1) (by simpa using z2) z3
 ·refine bH hd (Ev.bind (gS two h2) ?_)
  have e:iY two=false:=by unfold iY;rw [if_neg hd]
  rw [e]
  exact bU _
theorem DP (six:List Pt):Ev (fun k=>cQ k (oX six).1 (oX six).2 two (kQ two).1 (kQ two).2 false) true:=by
 refine cR (fun k=>by simp only [cQ];rfl) ?_
 refine bH (by simp) ?_
 by_cases hp:(oX six).2=true
 ·have hv:oX six=((oX six).1,true):=by rw [← hp]
  generalize (oX six).1=u at hv ⊢
  obtain ⟨h3,e⟩:=yP hv
  refine bA hp (bA (by omega) (bA (by omega) (bA (by omega) (bA (by omega) (bC (jV _ _ _ _ _ _ _ _ _) ?_)))))
  rw [e]
  exact BN h2
 ·exact bH hp (BN h2)
theorem DQ (six:List Pt) (b1 b2 b3 c1 c2 c3 p1 p2 p3 q1 q2 q3 r1 r2 r3:Int) :
  Ev (fun k=>bR k (oX six).1 (oX six).2 two (kQ two).1 (kQ two).2 false b1 b2 b3 c1 c2 c3 (fV b1 b2 b3 c1 c2 c3).1 (fV b1 b2 b3 c1 c2 c3).2.1 (fV b1 b2 b3 c1 c2 c3).2.2 p1 p2 p3 q1 q2 q3 r1 r2 r3) true:=by
 refine cR (fun k=>by simp only [bR];rfl) ?_
 refine bH (by simp) (Ev.bind (jC _ _ _ _ _ _) ?_)
 have e:=xQ b1 b2 b3 c1 c2 c3
 refine bA (by rw [e]) (bA (by rw [e]) (bA (by rw [e]) (bA (zX _ _ _ _ _ _) (bC (jV _ _ _ _ _ _ _ _ _) (bC (jV _ _ _ _ _ _ _ _ _) ?_)))))
 rw [yN p1 p2 p3 q1 q2 q3 r1 r2 r3]
 have e2:∀ b:Bool,(b != b)=false:=fun b=>by cases b <;> rfl
 rw [e2]
 exact DP h2 six
end
theorem FnIncidences:laws_FnIncidences.Pure:=by
 rintro x ⟨hm,_⟩
 apply zC
 simp only [laws_FnIncidences.f,laws_big.f,Option.bind_some]
 by_cases hx:(x.length:Int) > 1048576
 ·exact bA (decide_eq_true hx) (bU true)
 refine bH (by simpa using hx) ?_
 have hx':x.length≤1099511627776:=by omega
 obtain ⟨a1,a2,a3,b1,b2,b3,hC⟩:=wR x hx'
 obtain ⟨p1,p2,p3,q1,q2,q3,r1,r2,r3,hO⟩:=yQ x hx'
 obtain ⟨six,hS,h6⟩:=vJ x hx'
 obtain ⟨two,hT,h2⟩:=sL x hx'
 obtain ⟨t1,t2,hU⟩:=vI x hx'
 have l1:=xP six
 have l2:=xN two
 refine Ev.bind hC (Ev.bind (jC _ _ _ _ _ _) (Ev.bind hO (Ev.bind hS (Ev.bind (uQ six h6) (Ev.bind (uP six h6) (Ev.bind hT (Ev.bind (lR two h2) (Ev.bind (lQ two h2) (Ev.bind hU (Ev.bind (fD _ _ _ _ _ _) ?_))))))))))
 refine bH (by simp) (bC (jV _ _ _ _ _ _ _ _ _) (bC (uL _ _ _ _ _ _ _ _ _) (bH (by simp) (bH (by simp) (Ev.bind (nG _ (by omega)) (bA rfl (bH (by simp) (Ev.bind (nG _ (by omega)) (bA rfl (Ev.bind (gS two h2) (Ev.bind (pU two h2) (bH (by simp) (bC rfl (bC rfl ?_))))))))))))))
 have e:(!(t1==t1)||(!(t2==t2)||(!((1:Int)==1))))=false:=by simp
 simp only [e]
 exact DQ h2 six _ _ _ _ _ _ _ _ _ _ _ _ _ _ _
end Go.Proofs.Ytldcckcljjlglaa.Pure

namespace Go.Proofs.Ytldcckcljjlglaa.Opn
open Go Go.Deep Go.ChangeShapes Go.WideShapes Go.Proofs.YtldcckcljjlglaaW.PrintWords
section
variable {H : Type} (enc : TypeId × Value → H) (P : Program) (w : World) (base : Nat) (spare : Nat → Bool) (held : Bool)
def BO {α:Type} (d:Kd α) (t:TypeId) (Q:α→Prop):Prop :=
 ∀ (fuel:Nat) (cs:List Value) (x:DataW H×List MemPlace),DataW.trod enc P w base spare held fuel t cs=some x→∃ a,d.K w a cs∧Q a
end
section
variable {H : Type} {enc : TypeId × Value → H} {P : Program} {w : World} {base : Nat} {spare : Nat → Bool} {held : Bool}
theorem zH {t:TypeId} {k:IntKind} (ht:P.underlying t=some (.int k)):BO enc P w base spare held (Kd.int k) t (fun n=>(Lit.int k n).wf=true):=fun fuel cs x h=>by
 obtain ⟨n,rfl,_,hw⟩:=DataW.trod_int ht h
 exact ⟨n,rfl,hw⟩
theorem xS {α:Type} {d:Kd α} {t e:TypeId} {Q:α→Prop} (ht:P.underlying t=some (.slice e)) (hc:P.cellsOf e=d.sz) (h:BO enc P w base spare held d e Q) :
  BO enc P w base spare held (Kd.slice e d) t (fun xs=>xs.length≤maxLen∧∀ x ∈ xs,Q x):=fun fuel cs x hx=>by
 rcases open_slice ht hx with ⟨rfl,_⟩|⟨a,len,cap,m,n,D,Pl,rfl,_,hl,hm,hmm,_,hel⟩
 ·exact ⟨[],⟨none,0,rfl,Nat.le_refl _,⟨rfl,by simp,fun h=>by simp at h⟩⟩,by simp⟩
 have hlm:len≤m:=by rw [hmm];split <;> omega
 have hi:∀ i:Fin len,∃ y:α,(∃ cs',w.cells? base (a.add (i.val*P.cellsOf e)) (P.cellsOf e)=some cs'∧d.K w y cs')∧Q y:=fun i=>by
  obtain ⟨cs',h1,h2⟩:=hel i.val (by omega)
  obtain ⟨y,hK,hQ⟩:=h _ _ _ h2
  exact ⟨y,⟨cs',h1,hK⟩,hQ⟩
 let f:Fin len→α:=fun i=>Classical.choose (hi i)
 have hfs:∀ i:Fin len,(∃ cs',w.cells? base (a.add (i.val*P.cellsOf e)) (P.cellsOf e)=some cs'∧d.K w (f i) cs')∧Q (f i):=fun i=>Classical.choose_spec (hi i)
 have hlen:(List.ofFn f).length=len:=by simp
 have hmax:cap≤9223372036854775807:=by unfold maxLen at hm;omega
 refine ⟨List.ofFn f,⟨some a,cap,by rw [hlen],by omega,⟨rfl,by omega,fun _=>⟨a,rfl,fun j p hj=>?_⟩⟩⟩,by omega,fun y hy=>?_⟩
 ·obtain ⟨hj',rfl⟩:=List.getElem?_eq_some_iff.1 hj
  obtain ⟨⟨cs',h1,hK⟩,_⟩:=hfs ⟨j,by omega⟩
  obtain ⟨_,hcl,hcell⟩:=World.cells?_some h1
  refine ⟨cs',by omega,by simpa using hK,fun i u hu=>?_⟩
  have hiu:i<P.cellsOf e:=by
   have:=(List.getElem?_eq_some_iff.1 hu).1
   omega
  have:=hcell i hiu
  rw [Go.Deep.add_add,hu,hc] at this
  exact this
 ·obtain ⟨i,rfl⟩:=(List.mem_ofFn).1 hy
  exact (hfs i).2
end
end Go.Proofs.Ytldcckcljjlglaa.Opn

