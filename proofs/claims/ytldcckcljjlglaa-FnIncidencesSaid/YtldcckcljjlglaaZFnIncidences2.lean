/- A part of the proof of FnIncidences: printed contracts and plain laws, joined by a program of this session. -/
import Derived.Test.YtldcckcljjlglaaZFnIncidences1
namespace Go.Proofs.Ytldcckcljjlglaa.P
open Go.RowKit Go.Proofs.YtldcckcljjlglaaW.PrintWords Go.Proofs.YtldcckcljjlglaaW.PrintLast Go.Proofs.YtldcckcljjlglaaW.PrintMore
attribute [local go_sem] max2_int min2_int max_two min_two max_three min_three max_four min_four
set_option linter.unusedVariables false
set_option linter.unusedSimpArgs false
/-! ### impl_divisor: function 103 -/
mutual
def eM:Nat→Int→List Int→Int→Int→Option (Int)
 | 0,_,_,_,_=>none
 | k+1,x3,x6,x7,x8=>if x8<x7 then (if 0≤x8 then (if x8<(x6.length:Int) then (eN k x3 (rd x6 x8) x6 x7 x8) else (none)) else (none)) else (some (mx x3 (wrap64 (-x3))))
def eN:Nat→Int→Int→List Int→Int→Int→Option (Int)
 | 0,_,_,_,_,_=>none
 | k+1,x3,x5,x6,x7,x8=>if x5=0 then (eM k x3 x6 x7 (wrap64 (x8+1))) else (eN k x5 (Int.tmod x3 x5) x6 x7 x8)
end
def impl_divisor.f (k:Nat) (l0:List Int):Option (Int):=eM k 0 l0 (l0.length:Int) 0
set_option maxHeartbeats 8000000 in
set_option maxRecDepth 100000 in
theorem kV (k:Nat) (A0:Option Addr) (c0:Nat) (l0:List Int) (r:Int) (w:World) (hr0:Kd.C (Kd.int .i64) w A0 l0.length l0) (hc0:l0.length≤c0) (h:impl_divisor.f k l0=some r) :
  Calls Try.prog 103 #[.slice A0 l0.length c0] w fun e w'=>e=.returned (.int .i64 r)∧Below w.heap.size w w':=by
 have HR0:=aD hr0
 have HC0:=aD hc0
 clear hr0 hc0
 have HB:=aD (Below.refl w.heap.size w)
 unfold impl_divisor.f at h
 have H:=h
 clear h
 have H':=aD H
 clear H
 go_enter Try.func103,Try.ntmps103
 go_wp2
 repeat (go_quiet (fail);try go_wp2)
 go_loopg [3,8] k (fun kq v3 v8 w'=>∃ (x3_1:Int) (x8_1:Int),v3=.int .i64 x3_1∧v8=.int .i64 x8_1∧Aside0 (eM kq x3_1 l0 (l0.length:Int) x8_1=some r)∧Aside0 (kq≤k)∧Aside0 (Below w.heap.size w w'))
 case atStart=>exact ⟨(0),(0),eO,eO,H',⟨Nat.le_refl _⟩,⟨bM HB⟩⟩
 case round =>
  clear H'
  obtain ⟨x3_1,x8_1,rfl,rfl,HA,HK1,HB⟩:=hrel
  cases gk with
  | zero=>exact absurd HA.out (by simp [eM])
  | succ k1 =>
   have H:=HA.out
   clear HA
   simp only [eM] at H
   rcases mJ H with ⟨c2b0,H⟩|⟨c2b0,H⟩
   ·obtain ⟨c3b0,H⟩:=jU H
    obtain ⟨c4b0,H⟩:=jU H
    have H':=aD H
    clear H
    have p101:0≤(x8_1:Int):=dX
    have q101:x8_1<(l0.length:Int):=dX
    obtain ⟨ad101,e101,hx101_0⟩:=Kd.at_int HR0.out x8_1 p101 q101
    cases e101
    replace hx101_0:=kT HB hx101_0
    replace p101:=eq_true p101
    replace q101:=eq_true q101
    go_wp2
    repeat (go_quiet (fail);try go_wp2)
    go_loopg [3,5] k1 (fun kq v3 v5 w'=>∃ (x3_2:Int) (x5_2:Int),v3=.int .i64 x3_2∧v5=.int .i64 x5_2∧Aside0 (eN kq x3_2 x5_2 l0 (l0.length:Int) x8_1=some r)∧Aside0 (kq≤k1)∧Aside0 (Below w.heap.size w w'))
    case atStart=>exact ⟨(x3_1),(rd l0 x8_1),eO,eO,H',⟨Nat.le_refl _⟩,⟨bM HB⟩⟩
    case round =>
     clear H'
     try clear c2b0
     try clear c3b0
     try clear c4b0
     try clear hx101_0
     try clear p101
     try clear q101
     obtain ⟨x3_2,x5_2,rfl,rfl,HA,HK2,HB⟩:=hrel
     cases gk with
     | zero=>exact absurd HA.out (by simp [eN])
     | succ k2 =>
      have H:=HA.out
      clear HA
      simp only [eN] at H
      rcases kK H with ⟨c5,H⟩|⟨c5,H⟩
      ·have c5b0:(x5_2==0)=true:=beq_iff_eq.mpr c5
       have c5b1:(x5_2 != 0)=false:=bne_eq_false_iff_eq.mpr c5
       clear c5
       have H':=aD H
       clear H
       go_wp2
       repeat (go_quiet (fail);try go_wp2)
       go_roundg k2
       case measure=>have:=HK1.out;have:=HK2.out;omega
       case rel=>exact ⟨(x3_2),(wrap64 (x8_1+1)),eO,eO,H',⟨by have:=HK1.out;have:=HK2.out;omega⟩,⟨bM HB⟩⟩
      ·have c5b0:(x5_2==0)=false:=beq_eq_false_iff_ne.mpr c5
       have c5b1:(x5_2 != 0)=true:=bne_iff_ne.mpr c5
       have H':=aD H
       clear H
       go_wp2
       repeat (go_quiet (fail);try go_wp2)
       go_roundg k2
       case measure=>have:=HK1.out;have:=HK2.out;omega
       case rel=>exact ⟨(x5_2),(Int.tmod x3_2 x5_2),eO,eO,H',⟨by have:=HK1.out;have:=HK2.out;omega⟩,⟨bM HB⟩⟩
   ·obtain ⟨ji6,hji6⟩:∃ j_:Int,(mx x3_1 (wrap64 (-x3_1)))=j_:=⟨_,rfl⟩
    replace H:(some ji6)=some r:=by first|(rw [hji6] at H;exact H)|(simp only [hji6] at H ⊢;exact H)
    have hji6_:(if x3_1<(wrap64 (-x3_1)) then (wrap64 (-x3_1)) else x3_1)=ji6:=hji6
    obtain rfl:=Option.some.inj H
    go_wp2
    repeat (go_quiet (fail);try go_wp2)
    go_ret
    exact ⟨by first|rfl|(simp [mG,mI] <;> rfl)|(simp only [← hji6];first|rfl|(simp [mG,mI] <;> rfl))|(simp [*,mG,mI] <;> rfl),bM HB⟩
/-! ### impl_isFar: function 95 -/
def impl_isFar.f (a0:Int) (a1:Int):Option (Bool):=if a0<(wrap64 (-a1)) then (some true) else (some (decide (a0 > a1)))
set_option maxHeartbeats 8000000 in
set_option maxRecDepth 100000 in
theorem eR (a0:Int) (a1:Int) (r:Bool) (w:World) (h:impl_isFar.f a0 a1=some r) :
  Calls Try.prog 95 #[.int .i64 a0,.int .i64 a1] w fun e w'=>e=.returned (.bool r)∧jS w w':=by
 unfold impl_isFar.f at h
 have H:=h
 clear h
 rcases mJ H with ⟨c3b0,H⟩|⟨c3b0,H⟩
 ·obtain rfl:=Option.some.inj H
  go_enter Try.func95,Try.ntmps95
  go_wp2
  go_ret
  exact ⟨eO,by repeat (first|exact jS.refl _|apply eD)⟩
 ·obtain rfl:=Option.some.inj H
  go_enter Try.func95,Try.ntmps95
  go_wp2
  go_ret
  exact ⟨eO,by repeat (first|exact jS.refl _|apply eD)⟩
def lG (n most:Int):Bool:=(impl_isFar.f n most).getD false
theorem yD (n most:Int):impl_isFar.f n most=some (lG n most):=by
 unfold lG impl_isFar.f;split <;> rfl
theorem jD (n most:Int) {b:Bool} (h:lG n most=b):impl_isFar.f n most=some b:=by rw [yD,h]
/-! ### impl_Triple_170: function 170 -/
def uB (g:Nat) (lb:Array Value) (p:eV→Bool) (w:World):Prop :=
 ∀ (W:World) (x:eV),Below w.heap.size w W→Calls Try.prog g (#[.agg #[.int .i64 x.f0,.int .i64 x.f1,.int .i64 x.f2]]++lb) W fun e w'=>e=.returned (.bool (p x))∧Below W.heap.size W w'
def jA (p:eV→Bool):List eV→Nat→Int
 | [],_=>-1
 | x::l,i=>if p x then i else jA p l (i+1)
theorem oM (p:eV→Bool) (l:List eV) (k i:Nat) (h:∀ j,j<k→j<l.length→p (l.getD j DH)=false) (hk:k≤l.length):jA p l i=jA p (l.drop k) (i+k):=by
 induction k generalizing l i with
 | zero=>simp
 | succ k ih =>
  cases l with
  | nil=>simp at hk
  | cons x l =>
   have hx:p x=false:=by simpa using h 0 (by omega) (by simp)
   simp only [jA,hx,List.drop_succ_cons]
   rw [if_neg (by decide),ih l (i+1) (fun j hj hl=>by simpa using h (j+1) (by omega) (by simpa using hl)) (by simpa using hk)]
   simp [Nat.add_assoc,Nat.add_comm 1 k]
theorem vD (p:eV→Bool) (l:List eV) (i:Nat):decide (0≤jA p l i)=l.any p:=by
 induction l generalizing i with
 | nil=>rfl
 | cons x l ih =>
  simp only [jA,List.any_cons]
  by_cases h:p x=true
  ·simp [h]
  ·simp [h,ih]
set_option maxHeartbeats 1000000 in
set_option maxRecDepth 100000 in
theorem rB (g:Nat) (lb:Array Value) (eg:∀ args w,(callFunc g args).run Try.prog w=.ok (.enter g args) w) (p:eV→Bool) (A:Option Addr) (c:Nat) (l:List eV) (w:World) (hr:Kd.C gG w A l.length l) (hc:l.length≤c) (hp:uB g lb p w) :
  Calls Try.prog 170 #[.slice A l.length c,.func (.func g) #[] lb] w fun e w'=>e=.returned (.int .i64 (jA p l 0))∧Below w.heap.size w w':=by
 have hu72:=Try.underlying72
 have hmax:l.length≤9223372036854775807:=hr.2.1
 have HR:=aD hr
 have HP:=aD hp
 clear hr hp
 go_enter Try.func170,Try.ntmps170
 go_wp2_with fail
 go_loopg [5,8] l.length (fun gg _ s8 wr=>∃ kk:Nat,kk≤l.length∧l.length-kk≤gg∧s8=.int .i64 kk∧Aside0 (Below w.heap.size w wr)∧Aside0 (∀ j,j<kk→j<l.length→p (l.getD j DH)=false))
 case atStart=>exact ⟨0,Nat.zero_le _,by omega,rfl,⟨Below.refl _ w⟩,⟨fun j hj=>absurd hj (Nat.not_lt_zero _)⟩⟩
 case round =>
  obtain ⟨kk,hkk,hg,rfl,BW,AA⟩:=hrel
  by_cases hlt:kk<l.length
  ·have hltz:(kk:Int)<(l.length:Int):=by omega
   obtain ⟨ad,rfl,hx0,hx1,hx2⟩:=dJ (Kd.C_below HR.out BW.out) (kk:Int) (by omega) hltz
   simp only [Int.toNat_natCast] at hx0 hx1 hx2
   have hcall:=HP.out wr (aI l (kk:Int)) BW.out
   have hrdk:aI l (kk:Int)=l.getD kk DH:=rfl
   generalize hy:aI l (kk:Int)=y at hx0 hx1 hx2 hcall hrdk
   have HY:=aD hrdk
   clear hrdk hy
   cases hq:p y with
   | true =>
    rw [hq] at hcall
    have HQ:=aD hq
    clear hq
    go_wp2_with (go_at_fn g;refine hcall.mono ?_;rintro e w' ⟨rfl,hb'⟩)
    go_ret
    refine ⟨?_,aE BW.out hb'⟩
    rw [oM p l kk 0 AA.out hkk,List.drop_eq_getElem_cons hlt]
    have hyy:l[kk]=y:=by rw [HY.out];simp [List.getD,List.getElem?_eq_getElem hlt]
    simp only [jA,hyy,HQ.out]
    simp
   | false =>
    rw [hq] at hcall
    have HQ:=aD hq
    clear hq
    go_wp2_with (go_at_fn g;refine hcall.mono ?_;rintro e w' ⟨rfl,hb'⟩)
    go_roundg (l.length-(kk+1))
    case measure=>omega
    case rel =>
     refine ⟨kk+1,by omega,by omega,by go_num,⟨aE BW.out hb'⟩,⟨fun j hj hjl=>?_⟩⟩
     by_cases e:j=kk
     ·subst e
      rw [← HY.out];exact HQ.out
     ·exact AA.out j (by omega) hjl
  ·have hltz:¬ (kk:Int)<(l.length:Int):=by omega
   have hkl:kk=l.length:=by omega
   subst hkl
   go_wp2_with fail
   go_ret
   refine ⟨?_,BW.out⟩
   rw [oM p l l.length 0 AA.out (Nat.le_refl _),List.drop_length]
   rfl
/-! ### impl_Triple_152: function 152 -/
theorem oN (g:Nat) (lb:Array Value) (eg:∀ args w,(callFunc g args).run Try.prog w=.ok (.enter g args) w) (p:eV→Bool) (A:Option Addr) (c:Nat) (l:List eV) (w:World) (hr:Kd.C gG w A l.length l) (hc:l.length≤c) (hp:uB g lb p w) :
  Calls Try.prog 152 #[.slice A l.length c,.func (.func g) #[] lb] w fun e w'=>e=.returned (.bool (l.any p))∧Below w.heap.size w w':=by
 have HR:=aD hr
 have HP:=aD hp
 have HA:=aD (vD p l 0)
 clear hr hp
 go_enter Try.func152,Try.ntmps152
 go_wp2_with fail
 (with_reducible refine (rB g lb eg p A c l _ HR.out hc HP.out).mono ?_);rintro e w1 ⟨rfl,hb⟩
 go_wp2_with fail
 go_ret
 exact ⟨by rw [← HA.out];rfl,hb⟩
/-! ### impl_isLimited_1: function 153 -/
set_option maxHeartbeats 400000 in
theorem vE (x y z most:Int) (B:Nat) (w:World) (hB:B<w.heap.size) (hc:w.cell? ⟨B,0,none⟩=some (.int .i64 most)) :
  Calls Try.prog 153 #[.agg #[.int .i64 x,.int .i64 y,.int .i64 z],.pointer (some ⟨B,0,none⟩)] w fun e w'=>e=.returned (.bool (lG x most||lG y most||lG z most))∧Below w.heap.size w w':=by
 have hu72:=Try.underlying72
 cases h0:lG x most with
 | true =>
  have H0:=aD h0
  clear h0
  go_enter Try.func153,Try.ntmps153
  go_wp2_with fail
  (with_reducible refine (eR x most true _ (jD x most H0.out)).mono ?_);rintro e w0 ⟨rfl,⟨n0,rfl⟩⟩
  go_wp2_with fail
  go_ret
  exact ⟨rfl,by repeat (first|exact Below.refl _ _|apply qH|apply BS|apply lC)⟩
 | false =>
  have H0:=aD h0
  clear h0
  cases h1:lG y most with
  | true =>
   have H1:=aD h1
   clear h1
   go_enter Try.func153,Try.ntmps153
   go_wp2_with fail
   (with_reducible refine (eR x most false _ (jD x most H0.out)).mono ?_);rintro e w0 ⟨rfl,⟨n0,rfl⟩⟩
   go_wp2_with fail
   (with_reducible refine (eR y most true _ (jD y most H1.out)).mono ?_);rintro e w1 ⟨rfl,⟨n1,rfl⟩⟩
   go_wp2_with fail
   go_ret
   exact ⟨rfl,by repeat (first|exact Below.refl _ _|apply qH|apply BS|apply lC)⟩
  | false =>
   have H1:=aD h1
   clear h1
   cases h2:lG z most <;> have H2:=aD h2 <;> clear h2
   all_goals
    go_enter Try.func153,Try.ntmps153
    go_wp2_with fail
    (with_reducible refine (eR x most false _ (jD x most H0.out)).mono ?_);rintro e w0 ⟨rfl,⟨n0,rfl⟩⟩
    go_wp2_with fail
    (with_reducible refine (eR y most false _ (jD y most H1.out)).mono ?_);rintro e w1 ⟨rfl,⟨n1,rfl⟩⟩
    go_wp2_with fail
    (with_reducible refine (eR z most _ _ (jD z most H2.out)).mono ?_);rintro e w2 ⟨rfl,⟨n2,rfl⟩⟩
    go_wp2_with fail
    go_ret
    exact ⟨rfl,by repeat (first|exact Below.refl _ _|apply qH|apply BS|apply lC)⟩
/-! ### impl_isLimited: function 136 -/
def pJ (most:Int) (p:eV):Bool:=lG p.f0 most||lG p.f1 most||lG p.f2 most
def impl_isLimited.f (a0:Int) (l1:List eV):Option Bool:=some (!l1.any (pJ a0))
set_option maxHeartbeats 400000 in
theorem fR (a0:Int) (A1:Option Addr) (c1:Nat) (l1:List eV) (r:Bool) (w:World) (hr1:Kd.C gG w A1 l1.length l1) (hc1:l1.length≤c1) (h:impl_isLimited.f a0 l1=some r) :
  Calls Try.prog 136 #[.int .i64 a0,.slice A1 l1.length c1] w fun e w'=>e=.returned (.bool r)∧Below w.heap.size w w':=by
 have H:(!l1.any (pJ a0))=r:=Option.some.inj h
 have HH:=aD H
 clear H h
 have HR:=aD hr1
 clear hr1
 have eg:∀ (args:Array Value) (w:World),(callFunc 153 args).run Try.prog w=.ok (.enter 153 args) w:=enters_of Try.func153 (by kernel_rfl) rfl
 go_enter Try.func136,Try.ntmps136
 go_wp2_with fail
 (with_reducible refine (oN 153 _ eg (pJ a0) A1 c1 l1 _ ?side1 hc1 ?side2).mono ?_)
 case side1=>repeat (first|exact HR.out|(with_reducible refine Kd.C_alloc ?_ _)|(with_reducible refine Kd.C_drewN ?_ _)|(with_reducible refine Kd.C_drew ?_))
 case side2 =>
  intro W x hb
  have hlt:w.heap.size<W.heap.size:=by have:=hb.size;simp at this;omega
  exact vE x.f0 x.f1 x.f2 a0 w.heap.size W hlt ((hb.cell (p:=⟨w.heap.size,0,none⟩) (by simp)).trans (by simp))
 rintro e w1 ⟨rfl,hb⟩
 go_wp2_with fail
 go_ret
 exact ⟨by rw [← HH.out];rfl,aE (by repeat (first|exact Below.refl _ _|apply qH|apply BS|apply lC)) hb⟩
/-! ### impl_CrossOf: function 77 -/
def impl_CrossOf.f (k:Nat) (a0_0:Int) (a0_1:Int) (a0_2:Int) (a1_0:Int) (a1_1:Int) (a1_2:Int):Option (Int×Int×Int):=(impl_isLimited.f 1000000 (([(⟨a0_0,a0_1,a0_2⟩:eV),(⟨a1_0,a1_1,a1_2⟩:eV)]:List (eV)))).bind fun t107=>(if t107=true then ((impl_divisor.f k (([wrap64 ((wrap64 (a0_1*a1_2))-(wrap64 (a0_2*a1_1))),wrap64 ((wrap64 (a0_2*a1_0))-(wrap64 (a0_0*a1_2))),wrap64 ((wrap64 (a0_0*a1_1))-(wrap64 (a0_1*a1_0)))]:List Int))).bind fun t111=>(if t111=0 then (some (0,0,0)) else (some (wrap64 (Int.tdiv (wrap64 ((wrap64 (a0_1*a1_2))-(wrap64 (a0_2*a1_1)))) t111),wrap64 (Int.tdiv (wrap64 ((wrap64 (a0_2*a1_0))-(wrap64 (a0_0*a1_2)))) t111),wrap64 (Int.tdiv (wrap64 ((wrap64 (a0_0*a1_1))-(wrap64 (a0_1*a1_0)))) t111))))) else (some (0,0,0)))
def nV:Bool×List (List Nat×List Nat):=(true,[([],[]),([0],[0]),([],[]),([2],[2]),([1,3],[1,3]),([],[]),([5],[5]),([],[]),([7],[7]),([6,8],[6,8]),([4,9],[4,9]),([],[]),([11],[11]),([],[]),([13],[13]),([12,14],[12,14]),([],[]),([16],[16]),([],[]),([18],[18]),([17,19],[17,19]),([15,20],[15,20]),([],[]),([22],[22]),([],[]),([24],[24]),([23,25],[23,25]),([],[]),([27],[27]),([],[]),([29],[29]),([28,30],[28,30]),([26,31],[26,31]),([10,0,1,2,3,4,5,6,7,8,9,10],[10]),([21,33,0,1,2,3,4,5,6,7,8,9,10,11,12,13,14,15,16,17,18,19,20,21,33],[21]),([32,34,0,1,2,3,4,5,6,7,8,9,10,11,12,13,14,15,16,17,18,19,20,21,22,23,24,25,26,27,28,29,30,31,32,33,34],[32])])
def sW:List Nat:=[0,1,0,4,15,0,32,0,128,480,1023,0,2048,0,8192,30720,0,65536,0,262144,983040,2095104,0,4194304,0,16777216,62914560,0,134217728,0,536870912,2013265920,4290772992,2047,8594128895,34359738367]
theorem lO:gK .any (iQ Try.f77 3)=nV:=by kernel_rfl
theorem kW:eU nV.2 sW=true:=by kernel_rfl
def nW:Bool×List (List Nat×List Nat):=(true,[([],[]),([],[]),([0,1],[0,1]),([],[]),([],[]),([3,4],[3,4]),([],[]),([],[]),([6,7],[6,7]),([2,5,8],[2,5,8]),([9,0,1,2,3,4,5,6,7,8,9],[9])])
def sX:List Nat:=[0,0,3,0,0,24,0,0,192,511,1023]
theorem rC:gK .any (iQ Try.f77 7)=nW:=by kernel_rfl
theorem qJ:eU nW.2 sX=true:=by kernel_rfl
set_option maxHeartbeats 8000000 in
set_option maxRecDepth 100000 in
theorem eF (k:Nat) (a0_0:Int) (a0_1:Int) (a0_2:Int) (a1_0:Int) (a1_1:Int) (a1_2:Int) (r1:Int) (r2:Int) (r3:Int) (w:World) (h:impl_CrossOf.f k a0_0 a0_1 a0_2 a1_0 a1_1 a1_2=some (r1,r2,r3)) :
  Calls Try.prog 77 #[.agg #[.int .i64 a0_0,.int .i64 a0_1,.int .i64 a0_2],.agg #[.int .i64 a1_0,.int .i64 a1_1,.int .i64 a1_2]] w fun e w'=>e=.returned (.agg #[.int .i64 r1,.int .i64 r2,.int .i64 r3])∧Below w.heap.size w w':=by
 have hu72:=Try.underlying72
 have HB:=aD (Below.refl w.heap.size w)
 unfold impl_CrossOf.f at h
 have H:=h
 clear h
 obtain ⟨y104,hy104⟩:∃ y_:List (eV),y_=(([(⟨a0_0,a0_1,a0_2⟩:eV),(⟨a1_0,a1_1,a1_2⟩:eV)]:List (eV))):=⟨_,rfl⟩
 first|(with_reducible replace H:=uU hy104 H)|(with_reducible replace H:=uV hy104 H)|rw [← hy104] at H
 have Ny104:=aD hy104
 clear hy104
 replace H:=iS H
 obtain ⟨t107,A30,H⟩:=H
 replace H:(if t107=true then ((impl_divisor.f k (([wrap64 ((wrap64 (a0_1*a1_2))-(wrap64 (a0_2*a1_1))),wrap64 ((wrap64 (a0_2*a1_0))-(wrap64 (a0_0*a1_2))),wrap64 ((wrap64 (a0_0*a1_1))-(wrap64 (a0_1*a1_0)))]:List Int))).bind fun t111=>(if t111=0 then (some (0,0,0)) else (some (wrap64 (Int.tdiv (wrap64 ((wrap64 (a0_1*a1_2))-(wrap64 (a0_2*a1_1)))) t111),wrap64 (Int.tdiv (wrap64 ((wrap64 (a0_2*a1_0))-(wrap64 (a0_0*a1_2)))) t111),wrap64 (Int.tdiv (wrap64 ((wrap64 (a0_0*a1_1))-(wrap64 (a0_1*a1_0)))) t111))))) else (some (0,0,0)))=some (r1,r2,r3):=H
 have A3:=aD A30
 clear A30
 by_cases c4:t107=true
 ·subst c4
  rw [if_pos rfl] at H
  obtain ⟨y108,hy108⟩:∃ y_:List Int,y_=(([wrap64 ((wrap64 (a0_1*a1_2))-(wrap64 (a0_2*a1_1))),wrap64 ((wrap64 (a0_2*a1_0))-(wrap64 (a0_0*a1_2))),wrap64 ((wrap64 (a0_0*a1_1))-(wrap64 (a0_1*a1_0)))]:List Int)):=⟨_,rfl⟩
  first|(with_reducible replace H:=uU hy108 H)|(with_reducible replace H:=uV hy108 H)|rw [← hy108] at H
  have Ny108:=aD hy108
  clear hy108
  replace H:=iS H
  obtain ⟨t111,A50,H⟩:=H
  replace H:(if t111=0 then (some (0,0,0)) else (some (wrap64 (Int.tdiv (wrap64 ((wrap64 (a0_1*a1_2))-(wrap64 (a0_2*a1_1)))) t111),wrap64 (Int.tdiv (wrap64 ((wrap64 (a0_2*a1_0))-(wrap64 (a0_0*a1_2)))) t111),wrap64 (Int.tdiv (wrap64 ((wrap64 (a0_0*a1_1))-(wrap64 (a0_1*a1_0)))) t111))))=some (r1,r2,r3):=H
  have A5:=aD A50
  clear A50
  rcases kK H with ⟨c6,H⟩|⟨c6,H⟩
  ·have c6b0:(t111==0)=true:=beq_iff_eq.mpr c6
   have c6b1:(t111 != 0)=false:=bne_eq_false_iff_eq.mpr c6
   clear c6
   simp only [Option.some.injEq,Prod.mk.injEq] at H
   obtain ⟨rfl,rfl,rfl⟩:=H
   go_enter Try.func77,Try.ntmps77
   try go_wp2_with (first|((with_reducible refine aW (N:=2) rfl ?_);refine bS (N:=2) #[.int .i64 a0_0,.int .i64 a0_1,.int .i64 a0_2] 72 ?_;intro gb101 hg w7 hbox hb;have BK101:=aD (hbox);have GW101:=aD ((cZ HB hg));have GE101:=aD ((cZ HB hg));replace HB:=aD (aE (bM HB) hb);clear hb hbox hg)|((with_reducible refine aW (N:=3) rfl ?_);refine bS (N:=3) #[.int .i64 a1_0,.int .i64 a1_1,.int .i64 a1_2] 72 ?_;intro gb102 hg w8 hbox hb;have BK102:=aD (hbox);have GW102:=aD ((cZ HB hg));have GE102:=aD ((cZ HB hg));replace HB:=aD (aE (bM HB) hb);have NB101_102:=aD ((bW BK101 hg));have NB102_101:=aD ((bX BK101 hg));replace BK101:=aD (aU BK101 hb);clear hb hbox hg)|((with_reducible refine aW (N:=4) rfl ?_);refine bS (N:=4) #[.int .i64 0,.int .i64 0,.int .i64 0] 72 ?_;intro gb103 hg w9 hbox hb;have BK103:=aD (hbox);have GW103:=aD ((cZ HB hg));have GE103:=aD ((cZ HB hg));replace HB:=aD (aE (bM HB) hb);have NB101_103:=aD ((bW BK101 hg));have NB103_101:=aD ((bX BK101 hg));replace BK101:=aD (aU BK101 hb);have NB102_103:=aD ((bW BK102 hg));have NB103_102:=aD ((bX BK102 hg));replace BK102:=aD (aU BK102 hb);clear hb hbox hg;have hnb10:=NB101_102.out;have hnc10:=NB102_101.out;have hnb11:=NB101_103.out;have hnc11:=NB103_101.out;have hcz12_0:=aT BK101 0;have hcz12_1:=aT BK101 1;have hcz12_2:=aT BK101 2;have hfz12_0:=aC BK101.out 0;have hfz12_1:=aC BK101.out 1;have hfz12_2:=aC BK101.out 2;have hnb13:=NB102_103.out;have hnc13:=NB103_102.out;have hcz14_0:=aT BK102 0;have hcz14_1:=aT BK102 1;have hcz14_2:=aT BK102 2;have hfz14_0:=aC BK102.out 0;have hfz14_1:=aC BK102.out 1;have hfz14_2:=aC BK102.out 2)|((with_reducible refine aW (N:=11) rfl ?_);refine Kd.R_lit gG _ 72 ?hg (N:=11) ?hd (xs:=([(⟨a0_0,a0_1,a0_2⟩:eV),(⟨a1_0,a1_1,a1_2⟩:eV)]:List (eV))) (inner:=[.int .i64 a0_0,.int .i64 a0_1,.int .i64 a0_2,.int .i64 a1_0,.int .i64 a1_1,.int .i64 a1_2]) (ok:=fun _=>True) (okp:=fun _=>True) ?hr ?hp (fun _ hk=>hk) trivial (Below.refl _ _) (Nat.le_refl _) (by simp) ?_;(case hd=>rfl);(case hg=>rfl);(case hr=>first|(go_simp;done)|(go_simp;rfl));(case hp=>exact (iW (show Kd.M gG _ _ _ (⟨a0_0,a0_1,a0_2⟩:eV) [.int .i64 a0_0,.int .i64 a0_1,.int .i64 a0_2] from (fM _ _ _ (⟨a0_0,a0_1,a0_2⟩:eV) )) (iW (show Kd.M gG _ _ _ (⟨a1_0,a1_1,a1_2⟩:eV) [.int .i64 a1_0,.int .i64 a1_1,.int .i64 a1_2] from (fM _ _ _ (⟨a1_0,a1_1,a1_2⟩:eV) )) (iE.none _ _))));intro v105 w15 ho16 hb hg_ hnew_;clear hg_ hnew_;(first|rw [← Ny104.out] at ho16|(simp only [Int.reduceToNat] at ho16;rw [← Ny104.out] at ho16));have HO106:=aD (Kd.R_lower (Kd.R_newB (Kd.R_newB (Kd.R_newB ho16 (g:=gb101) (o:=.cells #[.int .i64 a0_0,.int .i64 a0_1,.int .i64 a0_2] 72 (0,0)) (cF BK101)) (g:=gb102) (o:=.cells #[.int .i64 a1_0,.int .i64 a1_1,.int .i64 a1_2] 72 (0,0)) (cF BK102)) (g:=gb103) (o:=.cells #[.int .i64 0,.int .i64 0,.int .i64 0] 72 (0,0)) (cF BK103)) (aM (bM HB)));replace BK101:=aD (aU BK101 hb);replace BK102:=aD (aU BK102 hb);replace BK103:=aD (aU BK103 hb);replace HB:=aD (aE (bM HB) hb);clear hb ho16;obtain ⟨Ao17,co17,eo17⟩:=Kd.R_slice HO106.out;subst eo17)|((with_reducible refine aV (f:=136) rfl ?_);refine bK (some 12) Try.func136 #[.int .i64 1000000,.slice Ao17 y104.length co17] ?_;(with_reducible refine (fR 1000000 _ _ y104 true _ ?side1 ?side2 A3.out).mono ?_);(case side1=>exact nK (Kd.R_reads' HO106.out).2.2);(case side2=>exact (Kd.R_reads' HO106.out).2.1);rintro e w18 ⟨rfl,hb⟩;refine ⟨_,rfl,?_⟩;replace HO106:=aD (Kd.R_below (bN HO106) hb);replace BK101:=aD (aU BK101 hb);replace BK102:=aD (aU BK102 hb);replace BK103:=aD (aU BK103 hb);replace HB:=aD (aE (bM HB) hb);(try clear hb);(try clear hk)))
   replace HO106:=aD (eQ HO106.out)
   replace BK101:=aD (aK BK101.out)
   replace BK102:=aD (aK BK102.out)
   replace BK103:=aD (aK BK103.out)
   replace HB:=aD (lC HB.out)
   refine eE (n:=36) (S:=fun w'=>w'.cell? ⟨gb101,0,none⟩=some (.int .i64 a0_0)∧w'.cell? ⟨gb101,1,none⟩=some (.int .i64 a0_1)∧w'.cell? ⟨gb101,2,none⟩=some (.int .i64 a0_2)∧w'.cell? ⟨gb102,0,none⟩=some (.int .i64 a1_0)∧w'.cell? ⟨gb102,1,none⟩=some (.int .i64 a1_1)∧w'.cell? ⟨gb102,2,none⟩=some (.int .i64 a1_2)) (ds:=[]) (bm 36 0) (by kernel_rfl) rfl rfl ⟨aT BK101 0,aT BK101 1,aT BK101 2,aT BK102 0,aT BK102 1,aT BK102 2⟩ (fun hHeld=>?_);refine cX lO kW (fun HT_ HW_=>?_)
   generalize w18.drew=w19 at HO106 BK101 BK102 BK103 HB hHeld ⊢
   refine dG ((0,0,15,1)::(0,2,17,5)::(0,5,20,37)::(0,7,22,165)::(0,11,26,2213)::(0,13,28,10405)::(0,16,31,75941)::(0,18,33,338085)::(0,22,37,4532389)::(0,24,39,21309605)::(0,27,42,155527333)::(0,29,44,692398245)::(2,1,16,692398247)::(2,3,18,692398255)::(0,4,19,692398271)::(2,6,21,692398335)::(2,8,23,692398591)::(0,9,24,692399103)::(0,10,25,692400127)::(0,33,5,9282334719)::(2,12,27,9282338815)::(2,14,29,9282355199)::(0,15,30,9282387967)::(2,17,32,9282519039)::(2,19,34,9283043327)::(0,20,35,9284091903)::(0,21,36,9286189055)::(0,34,6,26466058239)::(2,23,38,26474446847)::(2,25,40,26508001279)::(0,26,41,26575110143)::(2,28,43,26843545599)::(2,30,45,27917287423)::(0,31,46,30064771071)::(0,32,47,34359738367)::(0,35,7,68719476735)::[]) ?_
   iterate 36 (first|refine jT HT_ ?_|refine qB HT_ HW_ hHeld ?_)
   refine bL ?_
   refine dD (dZ HT_.out (by kernel_rfl)) ?_
   try go_wp2_with (first|((with_reducible refine aW (N:=51) rfl ?_);refine Kd.R_lit (Kd.int .i64) _ 3 ?hg (N:=51) ?hd (xs:=([wrap64 ((wrap64 (a0_1*a1_2))-(wrap64 (a0_2*a1_1))),wrap64 ((wrap64 (a0_2*a1_0))-(wrap64 (a0_0*a1_2))),wrap64 ((wrap64 (a0_0*a1_1))-(wrap64 (a0_1*a1_0)))]:List Int)) (inner:=[.int .i64 (wrap64 ((wrap64 (a0_1*a1_2))-(wrap64 (a0_2*a1_1)))),.int .i64 (wrap64 ((wrap64 (a0_2*a1_0))-(wrap64 (a0_0*a1_2)))),.int .i64 (wrap64 ((wrap64 (a0_0*a1_1))-(wrap64 (a0_1*a1_0))))]) (ok:=fun _=>True) (okp:=fun _=>True) ?hr ?hp (fun _ hk=>hk) trivial (Below.refl _ _) (Nat.le_refl _) (by simp) ?_;(case hd=>rfl);(case hg=>rfl);(case hr=>first|(go_simp;done)|(go_simp;rfl));(case hp=>exact (dF (show Kd.M (Kd.int .i64) _ _ _ (wrap64 ((wrap64 (a0_1*a1_2))-(wrap64 (a0_2*a1_1)))) [.int .i64 (wrap64 ((wrap64 (a0_1*a1_2))-(wrap64 (a0_2*a1_1))))] from rfl) (dF (show Kd.M (Kd.int .i64) _ _ _ (wrap64 ((wrap64 (a0_2*a1_0))-(wrap64 (a0_0*a1_2)))) [.int .i64 (wrap64 ((wrap64 (a0_2*a1_0))-(wrap64 (a0_0*a1_2))))] from rfl) (dF (show Kd.M (Kd.int .i64) _ _ _ (wrap64 ((wrap64 (a0_0*a1_1))-(wrap64 (a0_1*a1_0)))) [.int .i64 (wrap64 ((wrap64 (a0_0*a1_1))-(wrap64 (a0_1*a1_0))))] from rfl) (iE.none _ _)))));intro v109 w20 ho21 hb hg_ hnew_;clear hg_ hnew_;(first|rw [← Ny108.out] at ho21|(simp only [Int.reduceToNat] at ho21;rw [← Ny108.out] at ho21));replace HO106:=aD (Kd.R_below (bN HO106) hb);have HO110:=aD (Kd.R_lower ho21 (aM (bM HB)));replace BK101:=aD (aU BK101 hb);replace BK102:=aD (aU BK102 hb);replace BK103:=aD (aU BK103 hb);replace HB:=aD (aE (bM HB) hb);clear hb ho21;obtain ⟨Ao22,co22,eo22⟩:=Kd.R_slice HO110.out;subst eo22)|((with_reducible refine aV (f:=103) rfl ?_);refine bK (some 52) Try.func103 #[.slice Ao22 y108.length co22] ?_;(with_reducible refine (kV k _ _ y108 t111 _ ?side1 ?side2 A5.out).mono ?_);(case side1=>exact nK (Kd.R_reads' HO110.out).2.2);(case side2=>exact (Kd.R_reads' HO110.out).2.1);rintro e w23 ⟨rfl,hb⟩;refine ⟨_,rfl,?_⟩;replace HO106:=aD (Kd.R_below (bN HO106) hb);replace HO110:=aD (Kd.R_below (bN HO110) hb);replace BK101:=aD (aU BK101 hb);replace BK102:=aD (aU BK102 hb);replace BK103:=aD (aU BK103 hb);replace HB:=aD (aE (bM HB) hb);(try clear hb);(try clear hk);have hcz24_0:=aT BK103 0;have hcz24_1:=aT BK103 1;have hcz24_2:=aT BK103 2;have hfz24_0:=aC BK103.out 0;have hfz24_1:=aC BK103.out 1;have hfz24_2:=aC BK103.out 2))
   refine bodyPost_ret (results_cell_row rfl _ _ gb103 72 #[.int .i64 0,.int .i64 0,.int .i64 0] (0,0) _ rfl (eW BK103) Try.underlying72 rfl (by kernel_rfl)) rfl ?_
   exact ⟨dA,bM HB⟩
  ·have c6b0:(t111==0)=false:=beq_eq_false_iff_ne.mpr c6
   have c6b1:(t111 != 0)=true:=bne_iff_ne.mpr c6
   simp only [Option.some.injEq,Prod.mk.injEq] at H
   obtain ⟨rfl,rfl,rfl⟩:=H
   go_enter Try.func77,Try.ntmps77
   try go_wp2_with (first|((with_reducible refine aW (N:=2) rfl ?_);refine bS (N:=2) #[.int .i64 a0_0,.int .i64 a0_1,.int .i64 a0_2] 72 ?_;intro gb101 hg w25 hbox hb;have BK101:=aD (hbox);have GW101:=aD ((cZ HB hg));have GE101:=aD ((cZ HB hg));replace HB:=aD (aE (bM HB) hb);clear hb hbox hg)|((with_reducible refine aW (N:=3) rfl ?_);refine bS (N:=3) #[.int .i64 a1_0,.int .i64 a1_1,.int .i64 a1_2] 72 ?_;intro gb102 hg w26 hbox hb;have BK102:=aD (hbox);have GW102:=aD ((cZ HB hg));have GE102:=aD ((cZ HB hg));replace HB:=aD (aE (bM HB) hb);have NB101_102:=aD ((bW BK101 hg));have NB102_101:=aD ((bX BK101 hg));replace BK101:=aD (aU BK101 hb);clear hb hbox hg)|((with_reducible refine aW (N:=4) rfl ?_);refine bS (N:=4) #[.int .i64 0,.int .i64 0,.int .i64 0] 72 ?_;intro gb103 hg w27 hbox hb;have BK103:=aD (hbox);have GW103:=aD ((cZ HB hg));have GE103:=aD ((cZ HB hg));replace HB:=aD (aE (bM HB) hb);have NB101_103:=aD ((bW BK101 hg));have NB103_101:=aD ((bX BK101 hg));replace BK101:=aD (aU BK101 hb);have NB102_103:=aD ((bW BK102 hg));have NB103_102:=aD ((bX BK102 hg));replace BK102:=aD (aU BK102 hb);clear hb hbox hg;have hnb28:=NB101_102.out;have hnc28:=NB102_101.out;have hnb29:=NB101_103.out;have hnc29:=NB103_101.out;have hcz30_0:=aT BK101 0;have hcz30_1:=aT BK101 1;have hcz30_2:=aT BK101 2;have hfz30_0:=aC BK101.out 0;have hfz30_1:=aC BK101.out 1;have hfz30_2:=aC BK101.out 2;have hnb31:=NB102_103.out;have hnc31:=NB103_102.out;have hcz32_0:=aT BK102 0;have hcz32_1:=aT BK102 1;have hcz32_2:=aT BK102 2;have hfz32_0:=aC BK102.out 0;have hfz32_1:=aC BK102.out 1;have hfz32_2:=aC BK102.out 2)|((with_reducible refine aW (N:=11) rfl ?_);refine Kd.R_lit gG _ 72 ?hg (N:=11) ?hd (xs:=([(⟨a0_0,a0_1,a0_2⟩:eV),(⟨a1_0,a1_1,a1_2⟩:eV)]:List (eV))) (inner:=[.int .i64 a0_0,.int .i64 a0_1,.int .i64 a0_2,.int .i64 a1_0,.int .i64 a1_1,.int .i64 a1_2]) (ok:=fun _=>True) (okp:=fun _=>True) ?hr ?hp (fun _ hk=>hk) trivial (Below.refl _ _) (Nat.le_refl _) (by simp) ?_;(case hd=>rfl);(case hg=>rfl);(case hr=>first|(go_simp;done)|(go_simp;rfl));(case hp=>exact (iW (show Kd.M gG _ _ _ (⟨a0_0,a0_1,a0_2⟩:eV) [.int .i64 a0_0,.int .i64 a0_1,.int .i64 a0_2] from (fM _ _ _ (⟨a0_0,a0_1,a0_2⟩:eV) )) (iW (show Kd.M gG _ _ _ (⟨a1_0,a1_1,a1_2⟩:eV) [.int .i64 a1_0,.int .i64 a1_1,.int .i64 a1_2] from (fM _ _ _ (⟨a1_0,a1_1,a1_2⟩:eV) )) (iE.none _ _))));intro v105 w33 ho34 hb hg_ hnew_;clear hg_ hnew_;(first|rw [← Ny104.out] at ho34|(simp only [Int.reduceToNat] at ho34;rw [← Ny104.out] at ho34));have HO106:=aD (Kd.R_lower (Kd.R_newB (Kd.R_newB (Kd.R_newB ho34 (g:=gb101) (o:=.cells #[.int .i64 a0_0,.int .i64 a0_1,.int .i64 a0_2] 72 (0,0)) (cF BK101)) (g:=gb102) (o:=.cells #[.int .i64 a1_0,.int .i64 a1_1,.int .i64 a1_2] 72 (0,0)) (cF BK102)) (g:=gb103) (o:=.cells #[.int .i64 0,.int .i64 0,.int .i64 0] 72 (0,0)) (cF BK103)) (aM (bM HB)));replace BK101:=aD (aU BK101 hb);replace BK102:=aD (aU BK102 hb);replace BK103:=aD (aU BK103 hb);replace HB:=aD (aE (bM HB) hb);clear hb ho34;obtain ⟨Ao35,co35,eo35⟩:=Kd.R_slice HO106.out;subst eo35)|((with_reducible refine aV (f:=136) rfl ?_);refine bK (some 12) Try.func136 #[.int .i64 1000000,.slice Ao35 y104.length co35] ?_;(with_reducible refine (fR 1000000 _ _ y104 true _ ?side1 ?side2 A3.out).mono ?_);(case side1=>exact nK (Kd.R_reads' HO106.out).2.2);(case side2=>exact (Kd.R_reads' HO106.out).2.1);rintro e w36 ⟨rfl,hb⟩;refine ⟨_,rfl,?_⟩;replace HO106:=aD (Kd.R_below (bN HO106) hb);replace BK101:=aD (aU BK101 hb);replace BK102:=aD (aU BK102 hb);replace BK103:=aD (aU BK103 hb);replace HB:=aD (aE (bM HB) hb);(try clear hb);(try clear hk)))
   replace HO106:=aD (eQ HO106.out)
   replace BK101:=aD (aK BK101.out)
   replace BK102:=aD (aK BK102.out)
   replace BK103:=aD (aK BK103.out)
   replace HB:=aD (lC HB.out)
   refine eE (n:=36) (S:=fun w'=>w'.cell? ⟨gb101,0,none⟩=some (.int .i64 a0_0)∧w'.cell? ⟨gb101,1,none⟩=some (.int .i64 a0_1)∧w'.cell? ⟨gb101,2,none⟩=some (.int .i64 a0_2)∧w'.cell? ⟨gb102,0,none⟩=some (.int .i64 a1_0)∧w'.cell? ⟨gb102,1,none⟩=some (.int .i64 a1_1)∧w'.cell? ⟨gb102,2,none⟩=some (.int .i64 a1_2)) (ds:=[]) (bm 36 0) (by kernel_rfl) rfl rfl ⟨aT BK101 0,aT BK101 1,aT BK101 2,aT BK102 0,aT BK102 1,aT BK102 2⟩ (fun hHeld=>?_);refine cX lO kW (fun HT_ HW_=>?_)
   generalize w36.drew=w37 at HO106 BK101 BK102 BK103 HB hHeld ⊢
   refine dG ((0,0,15,1)::(0,2,17,5)::(0,5,20,37)::(0,7,22,165)::(0,11,26,2213)::(0,13,28,10405)::(0,16,31,75941)::(0,18,33,338085)::(0,22,37,4532389)::(0,24,39,21309605)::(0,27,42,155527333)::(0,29,44,692398245)::(2,1,16,692398247)::(2,3,18,692398255)::(0,4,19,692398271)::(2,6,21,692398335)::(2,8,23,692398591)::(0,9,24,692399103)::(0,10,25,692400127)::(0,33,5,9282334719)::(2,12,27,9282338815)::(2,14,29,9282355199)::(0,15,30,9282387967)::(2,17,32,9282519039)::(2,19,34,9283043327)::(0,20,35,9284091903)::(0,21,36,9286189055)::(0,34,6,26466058239)::(2,23,38,26474446847)::(2,25,40,26508001279)::(0,26,41,26575110143)::(2,28,43,26843545599)::(2,30,45,27917287423)::(0,31,46,30064771071)::(0,32,47,34359738367)::(0,35,7,68719476735)::[]) ?_
   iterate 36 (first|refine jT HT_ ?_|refine qB HT_ HW_ hHeld ?_)
   refine bL ?_
   refine dD (dZ HT_.out (by kernel_rfl)) ?_
   try go_wp2_with (first|((with_reducible refine aW (N:=51) rfl ?_);refine Kd.R_lit (Kd.int .i64) _ 3 ?hg (N:=51) ?hd (xs:=([wrap64 ((wrap64 (a0_1*a1_2))-(wrap64 (a0_2*a1_1))),wrap64 ((wrap64 (a0_2*a1_0))-(wrap64 (a0_0*a1_2))),wrap64 ((wrap64 (a0_0*a1_1))-(wrap64 (a0_1*a1_0)))]:List Int)) (inner:=[.int .i64 (wrap64 ((wrap64 (a0_1*a1_2))-(wrap64 (a0_2*a1_1)))),.int .i64 (wrap64 ((wrap64 (a0_2*a1_0))-(wrap64 (a0_0*a1_2)))),.int .i64 (wrap64 ((wrap64 (a0_0*a1_1))-(wrap64 (a0_1*a1_0))))]) (ok:=fun _=>True) (okp:=fun _=>True) ?hr ?hp (fun _ hk=>hk) trivial (Below.refl _ _) (Nat.le_refl _) (by simp) ?_;(case hd=>rfl);(case hg=>rfl);(case hr=>first|(go_simp;done)|(go_simp;rfl));(case hp=>exact (dF (show Kd.M (Kd.int .i64) _ _ _ (wrap64 ((wrap64 (a0_1*a1_2))-(wrap64 (a0_2*a1_1)))) [.int .i64 (wrap64 ((wrap64 (a0_1*a1_2))-(wrap64 (a0_2*a1_1))))] from rfl) (dF (show Kd.M (Kd.int .i64) _ _ _ (wrap64 ((wrap64 (a0_2*a1_0))-(wrap64 (a0_0*a1_2)))) [.int .i64 (wrap64 ((wrap64 (a0_2*a1_0))-(wrap64 (a0_0*a1_2))))] from rfl) (dF (show Kd.M (Kd.int .i64) _ _ _ (wrap64 ((wrap64 (a0_0*a1_1))-(wrap64 (a0_1*a1_0)))) [.int .i64 (wrap64 ((wrap64 (a0_0*a1_1))-(wrap64 (a0_1*a1_0))))] from rfl) (iE.none _ _)))));intro v109 w38 ho39 hb hg_ hnew_;clear hg_ hnew_;(first|rw [← Ny108.out] at ho39|(simp only [Int.reduceToNat] at ho39;rw [← Ny108.out] at ho39));replace HO106:=aD (Kd.R_below (bN HO106) hb);have HO110:=aD (Kd.R_lower ho39 (aM (bM HB)));replace BK101:=aD (aU BK101 hb);replace BK102:=aD (aU BK102 hb);replace BK103:=aD (aU BK103 hb);replace HB:=aD (aE (bM HB) hb);clear hb ho39;obtain ⟨Ao40,co40,eo40⟩:=Kd.R_slice HO110.out;subst eo40)|((with_reducible refine aV (f:=103) rfl ?_);refine bK (some 52) Try.func103 #[.slice Ao40 y108.length co40] ?_;(with_reducible refine (kV k _ _ y108 t111 _ ?side1 ?side2 A5.out).mono ?_);(case side1=>exact nK (Kd.R_reads' HO110.out).2.2);(case side2=>exact (Kd.R_reads' HO110.out).2.1);rintro e w41 ⟨rfl,hb⟩;refine ⟨_,rfl,?_⟩;replace HO106:=aD (Kd.R_below (bN HO106) hb);replace HO110:=aD (Kd.R_below (bN HO110) hb);replace BK101:=aD (aU BK101 hb);replace BK102:=aD (aU BK102 hb);replace BK103:=aD (aU BK103 hb);replace HB:=aD (aE (bM HB) hb);(try clear hb);(try clear hk)))
   replace HO106:=aD (eQ HO106.out)
   replace HO110:=aD (eQ HO110.out)
   replace BK101:=aD (aK BK101.out)
   replace BK102:=aD (aK BK102.out)
   replace BK103:=aD (aK BK103.out)
   replace HB:=aD (lC HB.out)
   refine eE (n:=11) (S:=fun w'=>True) (ds:=[]) (bm 11 0) (by kernel_rfl) rfl rfl trivial (fun hHeld=>?_);refine cX rC qJ (fun HT_ HW_=>?_)
   generalize w41.drew=w42 at HO106 HO110 BK101 BK102 BK103 HB hHeld ⊢
   refine dG ((0,0,56,1)::(0,1,57,3)::(0,2,58,7)::(0,3,59,15)::(0,4,60,31)::(0,5,61,63)::(0,6,62,127)::(0,7,63,255)::(0,8,64,511)::(0,9,65,1023)::[]) ?_
   iterate 10 (first|refine jT HT_ ?_)
   refine bL ?_
   refine cS (i:=10) (N:=none) (bm 11 2047) rfl rfl (bI HT_.out (by kernel_rfl)) (by decide) (fun K hK=>?_)
   have hs43:w42.cell? ⟨gb103,0,none⟩=some (.int .i64 0):=aT BK103 0
   have hfs43:=aC BK103.out 0
   have hns43_0:=NB101_103.out
   have hns43_1:=NB102_103.out
   have hms43_0:=NB103_101.out
   have hms43_1:=NB103_102.out
   have hs44:w42.cell? ⟨gb103,1,none⟩=some (.int .i64 0):=aT BK103 1
   have hfs44:=aC BK103.out 1
   have hns44_0:=NB101_103.out
   have hns44_1:=NB102_103.out
   have hms44_0:=NB103_101.out
   have hms44_1:=NB103_102.out
   have hs45:w42.cell? ⟨gb103,2,none⟩=some (.int .i64 0):=aT BK103 2
   have hfs45:=aC BK103.out 2
   have hns45_0:=NB101_103.out
   have hns45_1:=NB102_103.out
   have hms45_0:=NB103_101.out
   have hms45_1:=NB103_102.out
   refine fW (w1:=?_) (by rfl) rfl ?_ ?_
   rotate_left
   ·go_simp
    rfl
   refine hK.out _ _ trivial (fun hHeld=>?_)
   clear hK K
   refine dD (dZ HT_.out (by kernel_rfl)) ?_
   try go_wp2
   refine bodyPost_ret (results_cell_row rfl _ _ gb103 72 #[.int .i64 (wrap64 (Int.tdiv (wrap64 ((wrap64 (a0_1*a1_2))-(wrap64 (a0_2*a1_1)))) t111)),.int .i64 (wrap64 (Int.tdiv (wrap64 ((wrap64 (a0_2*a1_0))-(wrap64 (a0_0*a1_2)))) t111)),.int .i64 (wrap64 (Int.tdiv (wrap64 ((wrap64 (a0_0*a1_1))-(wrap64 (a0_1*a1_0)))) t111))] (0,0) _ rfl (eW BK103) Try.underlying72 rfl (by kernel_rfl)) rfl ?_
   exact ⟨dA,bM HB⟩
 ·replace c4:=Bool.eq_false_iff.mpr c4
  subst c4
  rw [if_neg (show ¬ (false=true) by decide)] at H
  simp only [Option.some.injEq,Prod.mk.injEq] at H
  obtain ⟨rfl,rfl,rfl⟩:=H
  go_enter Try.func77,Try.ntmps77
  go_wp2_with (first|((with_reducible refine aW (N:=2) rfl ?_);refine bS (N:=2) #[.int .i64 a0_0,.int .i64 a0_1,.int .i64 a0_2] 72 ?_;intro gb101 hg w46 hbox hb;have BK101:=aD (hbox);have GW101:=aD ((cZ HB hg));have GE101:=aD ((cZ HB hg));replace HB:=aD (aE (bM HB) hb);clear hb hbox hg)|((with_reducible refine aW (N:=3) rfl ?_);refine bS (N:=3) #[.int .i64 a1_0,.int .i64 a1_1,.int .i64 a1_2] 72 ?_;intro gb102 hg w47 hbox hb;have BK102:=aD (hbox);have GW102:=aD ((cZ HB hg));have GE102:=aD ((cZ HB hg));replace HB:=aD (aE (bM HB) hb);have NB101_102:=aD ((bW BK101 hg));have NB102_101:=aD ((bX BK101 hg));replace BK101:=aD (aU BK101 hb);clear hb hbox hg)|((with_reducible refine aW (N:=4) rfl ?_);refine bS (N:=4) #[.int .i64 0,.int .i64 0,.int .i64 0] 72 ?_;intro gb103 hg w48 hbox hb;have BK103:=aD (hbox);have GW103:=aD ((cZ HB hg));have GE103:=aD ((cZ HB hg));replace HB:=aD (aE (bM HB) hb);have NB101_103:=aD ((bW BK101 hg));have NB103_101:=aD ((bX BK101 hg));replace BK101:=aD (aU BK101 hb);have NB102_103:=aD ((bW BK102 hg));have NB103_102:=aD ((bX BK102 hg));replace BK102:=aD (aU BK102 hb);clear hb hbox hg;have hnb49:=NB101_102.out;have hnc49:=NB102_101.out;have hnb50:=NB101_103.out;have hnc50:=NB103_101.out;have hcz51_0:=aT BK101 0;have hcz51_1:=aT BK101 1;have hcz51_2:=aT BK101 2;have hfz51_0:=aC BK101.out 0;have hfz51_1:=aC BK101.out 1;have hfz51_2:=aC BK101.out 2;have hnb52:=NB102_103.out;have hnc52:=NB103_102.out;have hcz53_0:=aT BK102 0;have hcz53_1:=aT BK102 1;have hcz53_2:=aT BK102 2;have hfz53_0:=aC BK102.out 0;have hfz53_1:=aC BK102.out 1;have hfz53_2:=aC BK102.out 2)|((with_reducible refine aW (N:=11) rfl ?_);refine Kd.R_lit gG _ 72 ?hg (N:=11) ?hd (xs:=([(⟨a0_0,a0_1,a0_2⟩:eV),(⟨a1_0,a1_1,a1_2⟩:eV)]:List (eV))) (inner:=[.int .i64 a0_0,.int .i64 a0_1,.int .i64 a0_2,.int .i64 a1_0,.int .i64 a1_1,.int .i64 a1_2]) (ok:=fun _=>True) (okp:=fun _=>True) ?hr ?hp (fun _ hk=>hk) trivial (Below.refl _ _) (Nat.le_refl _) (by simp) ?_;(case hd=>rfl);(case hg=>rfl);(case hr=>first|(go_simp;done)|(go_simp;rfl));(case hp=>exact (iW (show Kd.M gG _ _ _ (⟨a0_0,a0_1,a0_2⟩:eV) [.int .i64 a0_0,.int .i64 a0_1,.int .i64 a0_2] from (fM _ _ _ (⟨a0_0,a0_1,a0_2⟩:eV) )) (iW (show Kd.M gG _ _ _ (⟨a1_0,a1_1,a1_2⟩:eV) [.int .i64 a1_0,.int .i64 a1_1,.int .i64 a1_2] from (fM _ _ _ (⟨a1_0,a1_1,a1_2⟩:eV) )) (iE.none _ _))));intro v105 w54 ho55 hb hg_ hnew_;clear hg_ hnew_;(first|rw [← Ny104.out] at ho55|(simp only [Int.reduceToNat] at ho55;rw [← Ny104.out] at ho55));have HO106:=aD (Kd.R_lower (Kd.R_newB (Kd.R_newB (Kd.R_newB ho55 (g:=gb101) (o:=.cells #[.int .i64 a0_0,.int .i64 a0_1,.int .i64 a0_2] 72 (0,0)) (cF BK101)) (g:=gb102) (o:=.cells #[.int .i64 a1_0,.int .i64 a1_1,.int .i64 a1_2] 72 (0,0)) (cF BK102)) (g:=gb103) (o:=.cells #[.int .i64 0,.int .i64 0,.int .i64 0] 72 (0,0)) (cF BK103)) (aM (bM HB)));replace BK101:=aD (aU BK101 hb);replace BK102:=aD (aU BK102 hb);replace BK103:=aD (aU BK103 hb);replace HB:=aD (aE (bM HB) hb);clear hb ho55;obtain ⟨Ao56,co56,eo56⟩:=Kd.R_slice HO106.out;subst eo56)|((with_reducible refine aV (f:=136) rfl ?_);refine bK (some 12) Try.func136 #[.int .i64 1000000,.slice Ao56 y104.length co56] ?_;(with_reducible refine (fR 1000000 _ _ y104 false _ ?side1 ?side2 A3.out).mono ?_);(case side1=>exact nK (Kd.R_reads' HO106.out).2.2);(case side2=>exact (Kd.R_reads' HO106.out).2.1);rintro e w57 ⟨rfl,hb⟩;refine ⟨_,rfl,?_⟩;replace HO106:=aD (Kd.R_below (bN HO106) hb);replace BK101:=aD (aU BK101 hb);replace BK102:=aD (aU BK102 hb);replace BK103:=aD (aU BK103 hb);replace HB:=aD (aE (bM HB) hb);(try clear hb);(try clear hk);have hcz58_0:=aT BK103 0;have hcz58_1:=aT BK103 1;have hcz58_2:=aT BK103 2;have hfz58_0:=aC BK103.out 0;have hfz58_1:=aC BK103.out 1;have hfz58_2:=aC BK103.out 2))
  refine bodyPost_ret (results_cell_row rfl _ _ gb103 72 #[.int .i64 0,.int .i64 0,.int .i64 0] (0,0) _ rfl (eW BK103) Try.underlying72 rfl (by kernel_rfl)) rfl ?_
  exact ⟨dA,bM HB⟩
/-! ### impl_TripleOf: function 86 -/
def impl_TripleOf.f (a0_0:Int) (a0_1:Int):Option (Int×Int×Int):=some (a0_0,a0_1,1)
set_option maxHeartbeats 8000000 in
set_option maxRecDepth 100000 in
theorem iM (a0_0:Int) (a0_1:Int) (r1:Int) (r2:Int) (r3:Int) (w:World) (h:impl_TripleOf.f a0_0 a0_1=some (r1,r2,r3)) :
  Calls Try.prog 86 #[.agg #[.int .i64 a0_0,.int .i64 a0_1]] w fun e w'=>e=.returned (.agg #[.int .i64 r1,.int .i64 r2,.int .i64 r3])∧Below w.heap.size w w':=by
 have hu80:=Try.underlying80
 have hu72:=Try.underlying72
 have HB:=aD (Below.refl w.heap.size w)
 unfold impl_TripleOf.f at h
 have H:=h
 clear h
 simp only [Option.some.injEq,Prod.mk.injEq] at H
 obtain ⟨rfl,rfl,rfl⟩:=H
 go_enter Try.func86,Try.ntmps86
 go_wp2_with (first|((with_reducible refine aW (N:=1) rfl ?_);refine bS (N:=1) #[.int .i64 a0_0,.int .i64 a0_1] 80 ?_;intro gb101 hg w2 hbox hb;have BK101:=aD (hbox);have GW101:=aD ((cZ HB hg));have GE101:=aD ((cZ HB hg));replace HB:=aD (aE (bM HB) hb);clear hb hbox hg)|((with_reducible refine aW (N:=2) rfl ?_);refine bS (N:=2) #[.int .i64 0,.int .i64 0,.int .i64 0] 72 ?_;intro gb102 hg w3 hbox hb;have BK102:=aD (hbox);have GW102:=aD ((cZ HB hg));have GE102:=aD ((cZ HB hg));replace HB:=aD (aE (bM HB) hb);have NB101_102:=aD ((bW BK101 hg));have NB102_101:=aD ((bX BK101 hg));replace BK101:=aD (aU BK101 hb);clear hb hbox hg;have hnb4:=NB101_102.out;have hnc4:=NB102_101.out;have hcz5_0:=aT BK101 0;have hcz5_1:=aT BK101 1;have hfz5_0:=aC BK101.out 0;have hfz5_1:=aC BK101.out 1;have hcz6_0:=aT BK102 0;have hcz6_1:=aT BK102 1;have hcz6_2:=aT BK102 2;have hfz6_0:=aC BK102.out 0;have hfz6_1:=aC BK102.out 1;have hfz6_2:=aC BK102.out 2))
 refine bodyPost_ret (results_cell_row rfl _ _ gb102 72 #[.int .i64 a0_0,.int .i64 a0_1,.int .i64 1] (0,0) _ rfl (eW BK102) Try.underlying72 rfl (by kernel_rfl)) rfl ?_
 exact ⟨dA,bM HB⟩
/-! ### impl_through: function 125 -/
def impl_through.f (k:Nat) (a0_0:Int) (a0_1:Int) (a1_0:Int) (a1_1:Int):Option (Int×Int×Int):=(impl_TripleOf.f a0_0 a0_1).bind fun bt104=>((impl_TripleOf.f a1_0 a1_1).bind fun bt107=>((impl_CrossOf.f k bt104.1 bt104.2.1 bt104.2.2 bt107.1 bt107.2.1 bt107.2.2).bind fun bt110=>(some (bt110.1,bt110.2.1,bt110.2.2))))
set_option maxHeartbeats 8000000 in
set_option maxRecDepth 100000 in
theorem cT (k:Nat) (a0_0:Int) (a0_1:Int) (a1_0:Int) (a1_1:Int) (r1:Int) (r2:Int) (r3:Int) (w:World) (h:impl_through.f k a0_0 a0_1 a1_0 a1_1=some (r1,r2,r3)) :
  Calls Try.prog 125 #[.agg #[.int .i64 a0_0,.int .i64 a0_1],.agg #[.int .i64 a1_0,.int .i64 a1_1]] w fun e w'=>e=.returned (.agg #[.int .i64 r1,.int .i64 r2,.int .i64 r3])∧Below w.heap.size w w':=by
 have hu80:=Try.underlying80
 have hu72:=Try.underlying72
 have HB:=aD (Below.refl w.heap.size w)
 unfold impl_through.f at h
 have H:=h
 clear h
 replace H:=fQ H
 obtain ⟨⟨t104,t105,t106⟩,A3,H⟩:=H
 try dsimp only at H
 replace H:=fQ H
 obtain ⟨⟨t107,t108,t109⟩,A4,H⟩:=H
 try dsimp only at H
 replace H:=fQ H
 obtain ⟨⟨t110,t111,t112⟩,A5,H⟩:=H
 try dsimp only at H
 simp only [Option.some.injEq,Prod.mk.injEq] at H
 obtain ⟨rfl,rfl,rfl⟩:=H
 go_enter Try.func125,Try.ntmps125
 try go_wp2_with (first|((with_reducible refine aW (N:=2) rfl ?_);refine bS (N:=2) #[.int .i64 a0_0,.int .i64 a0_1] 80 ?_;intro gb101 hg w6 hbox hb;have BK101:=aD (hbox);have GW101:=aD ((cZ HB hg));have GE101:=aD ((cZ HB hg));replace HB:=aD (aE (bM HB) hb);clear hb hbox hg)|((with_reducible refine aW (N:=3) rfl ?_);refine bS (N:=3) #[.int .i64 a1_0,.int .i64 a1_1] 80 ?_;intro gb102 hg w7 hbox hb;have BK102:=aD (hbox);have GW102:=aD ((cZ HB hg));have GE102:=aD ((cZ HB hg));replace HB:=aD (aE (bM HB) hb);have NB101_102:=aD ((bW BK101 hg));have NB102_101:=aD ((bX BK101 hg));replace BK101:=aD (aU BK101 hb);clear hb hbox hg)|((with_reducible refine aW (N:=4) rfl ?_);refine bS (N:=4) #[.int .i64 0,.int .i64 0,.int .i64 0] 72 ?_;intro gb103 hg w8 hbox hb;have BK103:=aD (hbox);have GW103:=aD ((cZ HB hg));have GE103:=aD ((cZ HB hg));replace HB:=aD (aE (bM HB) hb);have NB101_103:=aD ((bW BK101 hg));have NB103_101:=aD ((bX BK101 hg));replace BK101:=aD (aU BK101 hb);have NB102_103:=aD ((bW BK102 hg));have NB103_102:=aD ((bX BK102 hg));replace BK102:=aD (aU BK102 hb);clear hb hbox hg))
 replace BK101:=aD (aK BK101.out)
 replace BK102:=aD (aK BK102.out)
 replace BK103:=aD (aK BK103.out)
 replace HB:=aD (lC HB.out)
 refine eE (n:=6) (S:=fun w'=>w'.cell? ⟨gb101,0,none⟩=some (.int .i64 a0_0)∧w'.cell? ⟨gb101,1,none⟩=some (.int .i64 a0_1)∧w'.cell? ⟨gb102,0,none⟩=some (.int .i64 a1_0)∧w'.cell? ⟨gb102,1,none⟩=some (.int .i64 a1_1)) (ds:=[]) (bm 6 0) (by kernel_rfl) rfl rfl ⟨aT BK101 0,aT BK101 1,aT BK102 0,aT BK102 1⟩ (fun hHeld=>?_)
 generalize w8.drew=w9 at BK101 BK102 BK103 HB hHeld ⊢
 refine pW (i:=0) (N:=some 5) (v:=?_) (a':=?_) (bm 6 1) rfl rfl (by kernel_rfl) (fun _ _ _ h=>h) (Or.inl ⟨by rfl,?_⟩) hHeld ?_ ?_
 rotate_left
 ·rintro w' ⟨s0,s1,s2,s3⟩
  go_simp
  with_reducible rfl
 rotate_left
 ·simp only [Act.put,List.setIfInBounds_toArray,List.set_cons_zero,List.set_cons_succ,aZ,bB]
  rfl
 refine pW (i:=2) (N:=some 7) (v:=?_) (a':=?_) (bm 6 5) rfl rfl (by kernel_rfl) (fun _ _ _ h=>h) (Or.inl ⟨by rfl,?_⟩) hHeld ?_ ?_
 rotate_left
 ·rintro w' ⟨s0,s1,s2,s3⟩
  go_simp
  with_reducible rfl
 rotate_left
 ·simp only [Act.put,List.setIfInBounds_toArray,List.set_cons_zero,List.set_cons_succ,aZ,bB]
  rfl
 refine cS (i:=1) (N:=some 6) (bm 6 7) rfl rfl (by kernel_rfl) (by decide) (fun K hK=>?_)
 refine bP Try.func86 #[.agg #[.int .i64 a0_0,.int .i64 a0_1]] ?_
 with_reducible refine (iM a0_0 a0_1 t104 t105 t106 _ A3.out).mono ?_
 rintro e w10 ⟨rfl,hb⟩
 refine ⟨_,rfl,?_⟩
 replace BK101:=aD (aU BK101 hb)
 replace BK102:=aD (aU BK102 hb)
 replace BK103:=aD (aU BK103 hb)
 replace HB:=aD (aE (bM HB) hb)
 (try clear hb)
 refine hK.out _ _ ⟨aT BK101 0,aT BK101 1,aT BK102 0,aT BK102 1⟩ (fun hHeld=>?_)
 clear hK K
 refine wH ?_
 refine cS (i:=3) (N:=some 8) (bm 6 15) rfl rfl (by kernel_rfl) (by decide) (fun K hK=>?_)
 refine bP Try.func86 #[.agg #[.int .i64 a1_0,.int .i64 a1_1]] ?_
 with_reducible refine (iM a1_0 a1_1 t107 t108 t109 _ A4.out).mono ?_
 rintro e w11 ⟨rfl,hb⟩
 refine ⟨_,rfl,?_⟩
 replace BK101:=aD (aU BK101 hb)
 replace BK102:=aD (aU BK102 hb)
 replace BK103:=aD (aU BK103 hb)
 replace HB:=aD (aE (bM HB) hb)
 (try clear hb)
 refine hK.out _ _ ⟨aT BK101 0,aT BK101 1,aT BK102 0,aT BK102 1⟩ (fun hHeld=>?_)
 clear hK K
 refine wH ?_
 refine cS (i:=4) (N:=some 9) (bm 6 31) rfl rfl (by kernel_rfl) (by decide) (fun K hK=>?_)
 refine bP Try.func77 #[.agg #[.int .i64 t104,.int .i64 t105,.int .i64 t106],.agg #[.int .i64 t107,.int .i64 t108,.int .i64 t109]] ?_
 with_reducible refine (eF k t104 t105 t106 t107 t108 t109 t110 t111 t112 _ A5.out).mono ?_
 rintro e w12 ⟨rfl,hb⟩
 refine ⟨_,rfl,?_⟩
 replace BK101:=aD (aU BK101 hb)
 replace BK102:=aD (aU BK102 hb)
 replace BK103:=aD (aU BK103 hb)
 replace HB:=aD (aE (bM HB) hb)
 (try clear hb)
 refine hK.out _ _ ⟨aT BK101 0,aT BK101 1,aT BK102 0,aT BK102 1⟩ (fun hHeld=>?_)
 clear hK K
 refine wH ?_
 refine cS (i:=5) (N:=none) (bm 6 63) rfl rfl (by kernel_rfl) (by decide) (fun K hK=>?_)
 have hs13:w12.cell? ⟨gb103,0,none⟩=some (.int .i64 0):=aT BK103 0
 have hfs13:=aC BK103.out 0
 have hns13_0:=NB101_103.out
 have hns13_1:=NB102_103.out
 have hms13_0:=NB103_101.out
 have hms13_1:=NB103_102.out
 have hs14:w12.cell? ⟨gb103,1,none⟩=some (.int .i64 0):=aT BK103 1
 have hfs14:=aC BK103.out 1
 have hns14_0:=NB101_103.out
 have hns14_1:=NB102_103.out
 have hms14_0:=NB103_101.out
 have hms14_1:=NB103_102.out
 have hs15:w12.cell? ⟨gb103,2,none⟩=some (.int .i64 0):=aT BK103 2
 have hfs15:=aC BK103.out 2
 have hns15_0:=NB101_103.out
 have hns15_1:=NB102_103.out
 have hms15_0:=NB103_101.out
 have hms15_1:=NB103_102.out
 refine fW (w1:=?_) (by rfl) rfl ?_ ?_
 rotate_left
 ·go_simp
  rfl
 refine hK.out _ _ ⟨(cU NB101_103 ((cU NB101_103 ((cU NB101_103 hHeld.1))))),(cU NB101_103 ((cU NB101_103 ((cU NB101_103 hHeld.2.1))))),(cU NB102_103 ((cU NB102_103 ((cU NB102_103 hHeld.2.2.1))))),(cU NB102_103 ((cU NB102_103 ((cU NB102_103 hHeld.2.2.2)))))⟩ (fun hHeld=>?_)
 clear hK K
 refine dD (by kernel_rfl) ?_
 try go_wp2
 refine bodyPost_ret (results_cell_row rfl _ _ gb103 72 #[.int .i64 t110,.int .i64 t111,.int .i64 t112] (0,0) _ rfl (eW BK103) Try.underlying72 rfl (by kernel_rfl)) rfl ?_
 exact ⟨dA,bM HB⟩
end Go.Proofs.Ytldcckcljjlglaa.P

namespace Go.Proofs.Ytldcckcljjlglaa.P
open Go.RowKit Go.Proofs.YtldcckcljjlglaaW.PrintWords Go.Proofs.YtldcckcljjlglaaW.PrintLast Go.Proofs.YtldcckcljjlglaaW.PrintMore
attribute [local go_sem] max2_int min2_int max_two min_two max_three min_three max_four min_four
set_option linter.unusedVariables false
set_option linter.unusedSimpArgs false
attribute [local go_sem high] eqA72
/-! ### impl_areOneLine: function 126 -/
def impl_areOneLine.f (k:Nat) (a0_0:Int) (a0_1:Int) (a0_2:Int) (a1_0:Int) (a1_1:Int) (a1_2:Int):Option (Bool):=(impl_CrossOf.f k a0_0 a0_1 a0_2 a1_0 a1_1 a1_2).bind fun bt103=>(some (bt103.1==0&&(bt103.2.1==0&&(bt103.2.2==0))))
set_option maxHeartbeats 8000000 in
set_option maxRecDepth 100000 in
theorem bY (k:Nat) (a0_0:Int) (a0_1:Int) (a0_2:Int) (a1_0:Int) (a1_1:Int) (a1_2:Int) (r:Bool) (w:World) (h:impl_areOneLine.f k a0_0 a0_1 a0_2 a1_0 a1_1 a1_2=some r) :
  Calls Try.prog 126 #[.agg #[.int .i64 a0_0,.int .i64 a0_1,.int .i64 a0_2],.agg #[.int .i64 a1_0,.int .i64 a1_1,.int .i64 a1_2]] w fun e w'=>e=.returned (.bool r)∧Below w.heap.size w w':=by
 have hu72:=Try.underlying72
 have HB:=aD (Below.refl w.heap.size w)
 unfold impl_areOneLine.f at h
 have H:=h
 clear h
 replace H:=fQ H
 obtain ⟨⟨t103,t104,t105⟩,A3,H⟩:=H
 try dsimp only at H
 obtain rfl:=Option.some.inj H
 go_enter Try.func126,Try.ntmps126
 go_wp2_with (first|((with_reducible refine aW (N:=2) rfl ?_);refine bS (N:=2) #[.int .i64 a0_0,.int .i64 a0_1,.int .i64 a0_2] 72 ?_;intro gb101 hg w4 hbox hb;have BK101:=aD (hbox);have GW101:=aD ((cZ HB hg));have GE101:=aD ((cZ HB hg));replace HB:=aD (aE (bM HB) hb);clear hb hbox hg)|((with_reducible refine aW (N:=3) rfl ?_);refine bS (N:=3) #[.int .i64 a1_0,.int .i64 a1_1,.int .i64 a1_2] 72 ?_;intro gb102 hg w5 hbox hb;have BK102:=aD (hbox);have GW102:=aD ((cZ HB hg));have GE102:=aD ((cZ HB hg));replace HB:=aD (aE (bM HB) hb);have NB101_102:=aD ((bW BK101 hg));have NB102_101:=aD ((bX BK101 hg));replace BK101:=aD (aU BK101 hb);clear hb hbox hg;have hnb6:=NB101_102.out;have hnc6:=NB102_101.out;have hcz7_0:=aT BK101 0;have hcz7_1:=aT BK101 1;have hcz7_2:=aT BK101 2;have hfz7_0:=aC BK101.out 0;have hfz7_1:=aC BK101.out 1;have hfz7_2:=aC BK101.out 2;have hcz8_0:=aT BK102 0;have hcz8_1:=aT BK102 1;have hcz8_2:=aT BK102 2;have hfz8_0:=aC BK102.out 0;have hfz8_1:=aC BK102.out 1;have hfz8_2:=aC BK102.out 2)|((with_reducible refine aV (f:=77) rfl ?_);refine bK (some 7) Try.func77 #[.agg #[.int .i64 a0_0,.int .i64 a0_1,.int .i64 a0_2],.agg #[.int .i64 a1_0,.int .i64 a1_1,.int .i64 a1_2]] ?_;(with_reducible refine (eF k a0_0 a0_1 a0_2 a1_0 a1_1 a1_2 t103 t104 t105 _ A3.out).mono ?_);rintro e w9 ⟨rfl,hb⟩;refine ⟨_,rfl,?_⟩;replace BK101:=aD (aU BK101 hb);replace BK102:=aD (aU BK102 hb);replace HB:=aD (aE (bM HB) hb);(try clear hb)))
 go_ret
 exact ⟨dA,bM HB⟩
end Go.Proofs.Ytldcckcljjlglaa.P

namespace Go.Proofs.Ytldcckcljjlglaa.P
open Go.RowKit Go.Proofs.YtldcckcljjlglaaW.PrintWords Go.Proofs.YtldcckcljjlglaaW.PrintLast Go.Proofs.YtldcckcljjlglaaW.PrintMore
attribute [local go_sem] max2_int min2_int max_two min_two max_three min_three max_four min_four
set_option linter.unusedVariables false
set_option linter.unusedSimpArgs false
attribute [local go_sem high] eqA80
/-! ### impl_Point_168: function 168 -/
def eB:Nat→List (dB)→Int→Int→Int→Int→Option (Int)
 | 0,_,_,_,_,_=>none
 | k+1,x0,x7,x8,x102000,x102001=>if x8<x7 then (if 0≤x8 then (if x8<(x0.length:Int) then (if (x102000==((aA x0 x8).f0)&&(x102001==((aA x0 x8).f1)))=true then (some x8) else (eB k x0 x7 (wrap64 (x8+1)) x102000 x102001)) else (none)) else (none)) else (some (-1))
def impl_Point_168.f (k:Nat) (l0:List (dB)) (a1_0:Int) (a1_1:Int):Option (Int):=eB k l0 (l0.length:Int) 0 a1_0 a1_1
set_option maxHeartbeats 8000000 in
set_option maxRecDepth 100000 in
theorem oO (k:Nat) (A0:Option Addr) (c0:Nat) (l0:List (dB)) (a1_0:Int) (a1_1:Int) (r:Int) (w:World) (hr0:Kd.C gA w A0 l0.length l0) (hc0:l0.length≤c0) (h:impl_Point_168.f k l0 a1_0 a1_1=some r) :
  Calls Try.prog 168 #[.slice A0 l0.length c0,.agg #[.int .i64 a1_0,.int .i64 a1_1]] w fun e w'=>e=.returned (.int .i64 r)∧Below w.heap.size w w':=by
 have hu80:=Try.underlying80
 have HR0:=aD hr0
 have HC0:=aD hc0
 clear hr0 hc0
 have HB:=aD (Below.refl w.heap.size w)
 unfold impl_Point_168.f at h
 have H:=h
 clear h
 have H':=aD H
 clear H
 go_enter Try.func168,Try.ntmps168
 go_wp2_with (first|((with_reducible refine aW (N:=3) rfl ?_);refine bS (N:=3) #[.int .i64 a1_0,.int .i64 a1_1] 80 ?_;intro gb101 hg w3 hbox hb;have BK101:=aD (hbox);have GW101:=aD ((cZ HB hg));have GE101:=aD ((cZ HB hg));replace HB:=aD (aE (bM HB) hb);clear hb hbox hg))
 repeat (go_quiet (first|((with_reducible refine aW (N:=3) rfl ?_);refine bS (N:=3) #[.int .i64 a1_0,.int .i64 a1_1] 80 ?_;intro gb101 hg w3 hbox hb;have BK101:=aD (hbox);have GW101:=aD ((cZ HB hg));have GE101:=aD ((cZ HB hg));replace HB:=aD (aE (bM HB) hb);clear hb hbox hg));try go_wp2_with (first|((with_reducible refine aW (N:=3) rfl ?_);refine bS (N:=3) #[.int .i64 a1_0,.int .i64 a1_1] 80 ?_;intro gb101 hg w3 hbox hb;have BK101:=aD (hbox);have GW101:=aD ((cZ HB hg));have GE101:=aD ((cZ HB hg));replace HB:=aD (aE (bM HB) hb);clear hb hbox hg)))
 go_loopg [8] k (fun kq v8 w'=>∃ (x8_1:Int),v8=.int .i64 x8_1∧Aside0 (eB kq l0 (l0.length:Int) x8_1 a1_0 a1_1=some r)∧Aside0 (kq≤k)∧Aside0 (w'.heap[gb101]? = some (.cells #[.int .i64 a1_0,.int .i64 a1_1] 80 (0,0)))∧Aside0 (Below w.heap.size w w'))
 case atStart=>exact ⟨(0),eO,H',⟨Nat.le_refl _⟩,⟨cF BK101⟩,⟨bM HB⟩⟩
 case round =>
  clear H'
  obtain ⟨x8_1,rfl,HA,HK1,BK101,HB⟩:=hrel
  cases gk with
  | zero=>exact absurd HA.out (by simp [eB])
  | succ k1 =>
   have H:=HA.out
   clear HA
   simp only [eB] at H
   rcases mJ H with ⟨c4b0,H⟩|⟨c4b0,H⟩
   ·obtain ⟨c5b0,H⟩:=jU H
    obtain ⟨c6b0,H⟩:=jU H
    rcases kK H with ⟨c7,H⟩|⟨c7,H⟩
    ·have c7b0:(a1_0==((aA l0 x8_1).f0)&&(a1_1==((aA l0 x8_1).f1)))=true:=c7
     (try (have c7b1:decide (a1_0=((aA l0 x8_1).f0)&&(a1_1==((aA l0 x8_1).f1)))=true:=by simpa using c7))
     (try (have c7b2:(a1_0==((aA l0 x8_1).f0)&&(a1_1==((aA l0 x8_1).f1)))=true:=by simpa using c7))
     clear c7
     obtain rfl:=Option.some.inj H
     have hcz8_0:=aT BK101 0
     have hcz8_1:=aT BK101 1
     have hfz8_0:=aC BK101.out 0
     have hfz8_1:=aC BK101.out 1
     have p102:0≤(x8_1:Int):=dX
     have q102:x8_1<(l0.length:Int):=dX
     obtain ⟨ad102,e102,hx102_0,hx102_1⟩:=cC HR0.out x8_1 p102 q102
     cases e102
     replace hx102_0:=kT HB hx102_0
     replace hx102_1:=kT HB hx102_1
     replace p102:=eq_true p102
     replace q102:=eq_true q102
     go_wp2
     repeat (go_quiet (fail);try go_wp2)
     go_ret
     exact ⟨dA,bM HB⟩
    ·have c7b0:(a1_0==((aA l0 x8_1).f0)&&(a1_1==((aA l0 x8_1).f1)))=false:=by simpa using c7
     (try (have c7b1:decide (a1_0=((aA l0 x8_1).f0)&&(a1_1==((aA l0 x8_1).f1)))=false:=by simpa using c7))
     (try (have c7b2:(a1_0==((aA l0 x8_1).f0)&&(a1_1==((aA l0 x8_1).f1)))=false:=by simpa using c7))
     (try (have c7b3:¬ (a1_0=((aA l0 x8_1).f0)&&(a1_1==((aA l0 x8_1).f1))):=by simpa using c7))
     clear c7
     have H':=aD H
     clear H
     have hcz9_0:=aT BK101 0
     have hcz9_1:=aT BK101 1
     have hfz9_0:=aC BK101.out 0
     have hfz9_1:=aC BK101.out 1
     have p102:0≤(x8_1:Int):=dX
     have q102:x8_1<(l0.length:Int):=dX
     obtain ⟨ad102,e102,hx102_0,hx102_1⟩:=cC HR0.out x8_1 p102 q102
     cases e102
     replace hx102_0:=kT HB hx102_0
     replace hx102_1:=kT HB hx102_1
     replace p102:=eq_true p102
     replace q102:=eq_true q102
     go_wp2
     repeat (go_quiet (fail);try go_wp2)
     go_roundg k1
     case measure=>have:=HK1.out;omega
     case rel=>exact ⟨(wrap64 (x8_1+1)),eO,H',⟨by have:=HK1.out;omega⟩,⟨cF BK101⟩,⟨bM HB⟩⟩
   ·obtain rfl:=Option.some.inj H
    go_wp2
    repeat (go_quiet (fail);try go_wp2)
    go_ret
    exact ⟨dA,bM HB⟩
end Go.Proofs.Ytldcckcljjlglaa.P

namespace Go.Proofs.Ytldcckcljjlglaa.P
open Go.RowKit Go.Proofs.YtldcckcljjlglaaW.PrintWords Go.Proofs.YtldcckcljjlglaaW.PrintLast Go.Proofs.YtldcckcljjlglaaW.PrintMore
attribute [local go_sem] max2_int min2_int max_two min_two max_three min_three max_four min_four
set_option linter.unusedVariables false
set_option linter.unusedSimpArgs false
/-! ### impl_Point_149: function 149 -/
def impl_Point_149.f (k:Nat) (l0:List (dB)) (a1_0:Int) (a1_1:Int):Option (Bool):=(impl_Point_168.f k l0 a1_0 a1_1).bind fun t102=>(some (decide (t102 ≥ 0)))
set_option maxHeartbeats 8000000 in
set_option maxRecDepth 100000 in
theorem jZ (k:Nat) (A0:Option Addr) (c0:Nat) (l0:List (dB)) (a1_0:Int) (a1_1:Int) (r:Bool) (w:World) (hr0:Kd.C gA w A0 l0.length l0) (hc0:l0.length≤c0) (h:impl_Point_149.f k l0 a1_0 a1_1=some r) :
  Calls Try.prog 149 #[.slice A0 l0.length c0,.agg #[.int .i64 a1_0,.int .i64 a1_1]] w fun e w'=>e=.returned (.bool r)∧Below w.heap.size w w':=by
 have hu80:=Try.underlying80
 have HR0:=aD hr0
 have HC0:=aD hc0
 clear hr0 hc0
 have HB:=aD (Below.refl w.heap.size w)
 unfold impl_Point_149.f at h
 have H:=h
 clear h
 replace H:=fQ H
 obtain ⟨t102,A3,H⟩:=H
 obtain rfl:=Option.some.inj H
 go_enter Try.func149,Try.ntmps149
 go_wp2_with (first|((with_reducible refine aW (N:=3) rfl ?_);refine bS (N:=3) #[.int .i64 a1_0,.int .i64 a1_1] 80 ?_;intro gb101 hg w4 hbox hb;have BK101:=aD (hbox);have GW101:=aD ((cZ HB hg));have GE101:=aD ((cZ HB hg));replace HB:=aD (aE (bM HB) hb);clear hb hbox hg;have hcz5_0:=aT BK101 0;have hcz5_1:=aT BK101 1;have hfz5_0:=aC BK101.out 0;have hfz5_1:=aC BK101.out 1)|((with_reducible refine aV (f:=168) rfl ?_);refine bK (some 7) Try.func168 #[.slice A0 l0.length c0,.agg #[.int .i64 a1_0,.int .i64 a1_1]] ?_;(with_reducible refine (oO k _ _ l0 a1_0 a1_1 t102 _ ?side1 ?side2 A3.out).mono ?_);(case side1=>exact nK (Kd.C_below HR0.out HB.out));(case side2=>exact HC0.out);rintro e w6 ⟨rfl,hb⟩;refine ⟨_,rfl,?_⟩;replace BK101:=aD (aU BK101 hb);replace HB:=aD (aE (bM HB) hb);(try clear hb)))
 go_ret
 exact ⟨dA,bM HB⟩
/-! ### impl_Point_151: function 151 -/
def vN (g:Nat) (lb:Array Value) (p:dB→Bool) (w:World):Prop :=
 ∀ (W:World) (x:dB),Below w.heap.size w W→Calls Try.prog g (#[.agg #[.int .i64 x.f0,.int .i64 x.f1]]++lb) W fun e w'=>e=.returned (.bool (p x))∧Below W.heap.size W w'
def jH (p:dB→Bool):List dB→Nat→Int
 | [],_=>-1
 | x::l,i=>if p x then i else jH p l (i+1)
theorem pY (p:dB→Bool) (l:List dB) (k i:Nat) (h:∀ j,j<k→j<l.length→p (l.getD j CB)=false) (hk:k≤l.length):jH p l i=jH p (l.drop k) (i+k):=by
 induction k generalizing l i with
 | zero=>simp
 | succ k ih =>
  cases l with
  | nil=>simp at hk
  | cons x l =>
   have hx:p x=false:=by simpa using h 0 (by omega) (by simp)
   simp only [jH,hx,List.drop_succ_cons]
   rw [if_neg (by decide),ih l (i+1) (fun j hj hl=>by simpa using h (j+1) (by omega) (by simpa using hl)) (by simpa using hk)]
   simp [Nat.add_assoc,Nat.add_comm 1 k]
theorem wF (p:dB→Bool) (l:List dB) (i:Nat):decide (0≤jH p l i)=l.any p:=by
 induction l generalizing i with
 | nil=>rfl
 | cons x l ih =>
  simp only [jH,List.any_cons]
  by_cases h:p x=true
  ·simp [h]
  ·simp [h,ih]
set_option maxHeartbeats 1000000 in
set_option maxRecDepth 100000 in
theorem rY (g:Nat) (lb:Array Value) (eg:∀ args w,(callFunc g args).run Try.prog w=.ok (.enter g args) w) (p:dB→Bool) (A:Option Addr) (c:Nat) (l:List dB) (w:World) (hr:Kd.C gA w A l.length l) (hc:l.length≤c) (hp:vN g lb p w) :
  Calls Try.prog 151 #[.slice A l.length c,.func (.func g) #[] lb] w fun e w'=>e=.returned (.int .i64 (jH p l 0))∧Below w.heap.size w w':=by
 have hu80:=Try.underlying80
 have hmax:l.length≤9223372036854775807:=hr.2.1
 have HR:=aD hr
 have HP:=aD hp
 clear hr hp
 go_enter Try.func151,Try.ntmps151
 go_wp2_with fail
 go_loopg [5,8] l.length (fun gg _ s8 wr=>∃ kk:Nat,kk≤l.length∧l.length-kk≤gg∧s8=.int .i64 kk∧Aside0 (Below w.heap.size w wr)∧Aside0 (∀ j,j<kk→j<l.length→p (l.getD j CB)=false))
 case atStart=>exact ⟨0,Nat.zero_le _,by omega,rfl,⟨Below.refl _ w⟩,⟨fun j hj=>absurd hj (Nat.not_lt_zero _)⟩⟩
 case round =>
  obtain ⟨kk,hkk,hg,rfl,BW,AA⟩:=hrel
  by_cases hlt:kk<l.length
  ·have hltz:(kk:Int)<(l.length:Int):=by omega
   obtain ⟨ad,rfl,hx0,hx1⟩:=cC (Kd.C_below HR.out BW.out) (kk:Int) (by omega) hltz
   simp only [Int.toNat_natCast] at hx0 hx1
   have hcall:=HP.out wr (aA l (kk:Int)) BW.out
   have hrdk:aA l (kk:Int)=l.getD kk CB:=rfl
   generalize hy:aA l (kk:Int)=y at hx0 hx1 hcall hrdk
   have HY:=aD hrdk
   clear hrdk hy
   cases hq:p y with
   | true =>
    rw [hq] at hcall
    have HQ:=aD hq
    clear hq
    go_wp2_with (go_at_fn g;refine hcall.mono ?_;rintro e w' ⟨rfl,hb'⟩)
    go_ret
    refine ⟨?_,aE BW.out hb'⟩
    rw [pY p l kk 0 AA.out hkk,List.drop_eq_getElem_cons hlt]
    have hyy:l[kk]=y:=by rw [HY.out];simp [List.getD,List.getElem?_eq_getElem hlt]
    simp only [jH,hyy,HQ.out]
    simp
   | false =>
    rw [hq] at hcall
    have HQ:=aD hq
    clear hq
    go_wp2_with (go_at_fn g;refine hcall.mono ?_;rintro e w' ⟨rfl,hb'⟩)
    go_roundg (l.length-(kk+1))
    case measure=>omega
    case rel =>
     refine ⟨kk+1,by omega,by omega,by go_num,⟨aE BW.out hb'⟩,⟨fun j hj hjl=>?_⟩⟩
     by_cases e:j=kk
     ·subst e
      rw [← HY.out];exact HQ.out
     ·exact AA.out j (by omega) hjl
  ·have hltz:¬ (kk:Int)<(l.length:Int):=by omega
   have hkl:kk=l.length:=by omega
   subst hkl
   go_wp2_with fail
   go_ret
   refine ⟨?_,BW.out⟩
   rw [pY p l l.length 0 AA.out (Nat.le_refl _),List.drop_length]
   rfl
/-! ### impl_Point_130: function 130 -/
theorem kM (g:Nat) (lb:Array Value) (eg:∀ args w,(callFunc g args).run Try.prog w=.ok (.enter g args) w) (p:dB→Bool) (A:Option Addr) (c:Nat) (l:List dB) (w:World) (hr:Kd.C gA w A l.length l) (hc:l.length≤c) (hp:vN g lb p w) :
  Calls Try.prog 130 #[.slice A l.length c,.func (.func g) #[] lb] w fun e w'=>e=.returned (.bool (l.any p))∧Below w.heap.size w w':=by
 have HR:=aD hr
 have HP:=aD hp
 have HA:=aD (wF p l 0)
 clear hr hp
 go_enter Try.func130,Try.ntmps130
 go_wp2_with fail
 (with_reducible refine (rY g lb eg p A c l _ HR.out hc HP.out).mono ?_);rintro e w1 ⟨rfl,hb⟩
 go_wp2_with fail
 go_ret
 exact ⟨by rw [← HA.out];rfl,hb⟩
/-! ### impl_areNear_1: function 169 -/
set_option maxHeartbeats 400000 in
theorem xD (x y most:Int) (B:Nat) (w:World) (hB:B<w.heap.size) (hc:w.cell? ⟨B,0,none⟩=some (.int .i64 most)) :
  Calls Try.prog 169 #[.agg #[.int .i64 x,.int .i64 y],.pointer (some ⟨B,0,none⟩)] w fun e w'=>e=.returned (.bool (lG x most||lG y most))∧Below w.heap.size w w':=by
 have hu80:=Try.underlying80
 cases h0:lG x most with
 | true =>
  have H0:=aD h0
  clear h0
  go_enter Try.func169,Try.ntmps169
  go_wp2_with fail
  (with_reducible refine (eR x most true _ (jD x most H0.out)).mono ?_);rintro e w0 ⟨rfl,⟨n0,rfl⟩⟩
  go_wp2_with fail
  go_ret
  exact ⟨rfl,by repeat (first|exact Below.refl _ _|apply qH|apply BS|apply lC)⟩
 | false =>
  have H0:=aD h0
  clear h0
  cases h1:lG y most <;> have H1:=aD h1 <;> clear h1
  all_goals
   go_enter Try.func169,Try.ntmps169
   go_wp2_with fail
   (with_reducible refine (eR x most false _ (jD x most H0.out)).mono ?_);rintro e w0 ⟨rfl,⟨n0,rfl⟩⟩
   go_wp2_with fail
   (with_reducible refine (eR y most _ _ (jD y most H1.out)).mono ?_);rintro e w1 ⟨rfl,⟨n1,rfl⟩⟩
   go_wp2_with fail
   go_ret
   exact ⟨rfl,by repeat (first|exact Below.refl _ _|apply qH|apply BS|apply lC)⟩
/-! ### impl_areNear: function 150 -/
def rD (most:Int) (p:dB):Bool:=lG p.f0 most||lG p.f1 most
def impl_areNear.f (a0:Int) (l1:List dB):Option Bool:=some (!l1.any (rD a0))
set_option maxHeartbeats 400000 in
theorem qK (a0:Int) (A1:Option Addr) (c1:Nat) (l1:List dB) (r:Bool) (w:World) (hr1:Kd.C gA w A1 l1.length l1) (hc1:l1.length≤c1) (h:impl_areNear.f a0 l1=some r) :
  Calls Try.prog 150 #[.int .i64 a0,.slice A1 l1.length c1] w fun e w'=>e=.returned (.bool r)∧Below w.heap.size w w':=by
 have H:(!l1.any (rD a0))=r:=Option.some.inj h
 have HH:=aD H
 clear H h
 have HR:=aD hr1
 clear hr1
 have eg:∀ (args:Array Value) (w:World),(callFunc 169 args).run Try.prog w=.ok (.enter 169 args) w:=enters_of Try.func169 (by kernel_rfl) rfl
 go_enter Try.func150,Try.ntmps150
 go_wp2_with fail
 (with_reducible refine (kM 169 _ eg (rD a0) A1 c1 l1 _ ?side1 hc1 ?side2).mono ?_)
 case side1=>repeat (first|exact HR.out|(with_reducible refine Kd.C_alloc ?_ _)|(with_reducible refine Kd.C_drewN ?_ _)|(with_reducible refine Kd.C_drew ?_))
 case side2 =>
  intro W x hb
  have hlt:w.heap.size<W.heap.size:=by have:=hb.size;simp at this;omega
  exact xD x.f0 x.f1 a0 w.heap.size W hlt ((hb.cell (p:=⟨w.heap.size,0,none⟩) (by simp)).trans (by simp))
 rintro e w1 ⟨rfl,hb⟩
 go_wp2_with fail
 go_ret
 exact ⟨by rw [← HH.out];rfl,aE (by repeat (first|exact Below.refl _ _|apply qH|apply BS|apply lC)) hb⟩
/-! ### impl_areSix: function 128 -/
def eG:Nat→List (dB)→List (dB)→Int→Int→Option (Bool)
 | 0,_,_,_,_=>none
 | k+1,x0,x5,x6,x7=>if x7<x6 then (if 0≤x7 then (if x7<(x5.length:Int) then (if x7≤(x0.length:Int) then ((impl_Point_149.f k (x0.take (x7:Int).toNat) ((aA x5 x7).f0) ((aA x5 x7).f1)).bind fun t107=>(if t107=true then (some false) else (eG k x0 x5 x6 (wrap64 (x7+1))))) else (none)) else (none)) else (none)) else (if (x0.length:Int)=6 then ((impl_areNear.f 20 x0).bind fun t108=>(some t108)) else (some false))
def impl_areSix.f (k:Nat) (l0:List (dB)):Option (Bool):=eG k l0 l0 (l0.length:Int) 0
set_option maxHeartbeats 8000000 in
set_option maxRecDepth 100000 in
theorem iB (k:Nat) (A0:Option Addr) (c0:Nat) (l0:List (dB)) (r:Bool) (w:World) (hr0:Kd.C gA w A0 l0.length l0) (hc0:l0.length≤c0) (h:impl_areSix.f k l0=some r) :
  Calls Try.prog 128 #[.slice A0 l0.length c0] w fun e w'=>e=.returned (.bool r)∧Below w.heap.size w w':=by
 have hu80:=Try.underlying80
 have HR0:=aD hr0
 have HC0:=aD hc0
 clear hr0 hc0
 have HB:=aD (Below.refl w.heap.size w)
 unfold impl_areSix.f at h
 have H:=h
 clear h
 have H':=aD H
 clear H
 go_enter Try.func128,Try.ntmps128
 go_wp2
 go_loopg [7] k (fun kq v7 w'=>∃ (x7_1:Int),v7=.int .i64 x7_1∧Aside0 (eG kq l0 l0 (l0.length:Int) x7_1=some r)∧Aside0 (kq≤k)∧Aside0 (Below w.heap.size w w'))
 case atStart=>exact ⟨(0),eO,H',⟨Nat.le_refl _⟩,⟨bM HB⟩⟩
 case round =>
  clear H'
  obtain ⟨x7_1,rfl,HA,HK1,HB⟩:=hrel
  cases gk with
  | zero=>exact absurd HA.out (by simp [eG])
  | succ k1 =>
   have H:=HA.out
   clear HA
   simp only [eG] at H
   rcases mJ H with ⟨c2b0,H⟩|⟨c2b0,H⟩
   ·obtain ⟨c3b0,H⟩:=jU H
    obtain ⟨c4b0,H⟩:=jU H
    have c5b0:=eq_true (dX:0≤x7_1)
    obtain ⟨c6,H⟩:=iC H
    have c6b0:=eq_true c6
    have c6b1:=decide_eq_true c6
    clear c6
    obtain ⟨y103,hy103⟩:∃ y_:List (dB),y_=(l0.take (x7_1:Int).toNat):=⟨_,rfl⟩
    first|(with_reducible replace H:=uU hy103 H)|(with_reducible replace H:=uV hy103 H)|rw [← hy103] at H
    have Ny103:=aD hy103
    clear hy103
    replace H:=fQ H
    obtain ⟨t107,A7,H⟩:=H
    by_cases c8:t107=true
    ·subst c8
     rw [if_pos rfl] at H
     obtain rfl:=Option.some.inj H
     have p101:0≤(x7_1:Int):=dX
     have q101:x7_1<(l0.length:Int):=dX
     obtain ⟨ad101,e101,hx101_0,hx101_1⟩:=cC HR0.out x7_1 p101 q101
     cases e101
     replace hx101_0:=kT HB hx101_0
     replace hx101_1:=kT HB hx101_1
     replace p101:=eq_true p101
     replace q101:=eq_true q101
     try go_wp2_with (first|((with_reducible refine aW (N:=4) rfl ?_);refine bS (N:=4) #[.int .i64 0,.int .i64 0] 80 ?_;intro gb102 hg w9 hbox hb;have BK102:=aD (hbox);have GW102:=aD ((cZ HB hg));have GE102:=aD ((cZ HB hg));replace HB:=aD (aE (bM HB) hb);clear hb hbox hg;have hcz10_0:=aT BK102 0;have hcz10_1:=aT BK102 1;have hfz10_0:=aC BK102.out 0;have hfz10_1:=aC BK102.out 1))
     replace BK102:Aside0 (((w9.setCell ⟨gb102,0,none⟩ (.int .i64 ((aA l0 x7_1).f0))).setCell ⟨gb102,1,none⟩ (.int .i64 ((aA l0 x7_1).f1))).heap[gb102]? = some (.cells #[.int .i64 ((aA l0 x7_1).f0),.int .i64 ((aA l0 x7_1).f1)] 80 (0,0))):=⟨eW BK102⟩
     replace HB:Aside0 (Below w.heap.size w ((w9.setCell ⟨gb102,0,none⟩ (.int .i64 ((aA l0 x7_1).f0))).setCell ⟨gb102,1,none⟩ (.int .i64 ((aA l0 x7_1).f1)))):=⟨bM HB⟩
     generalize ((w9.setCell ⟨gb102,0,none⟩ (.int .i64 ((aA l0 x7_1).f0))).setCell ⟨gb102,1,none⟩ (.int .i64 ((aA l0 x7_1).f1)))=w11 at BK102 HB ⊢
     replace BK102:=aD (aK BK102.out)
     replace HB:=aD (lC HB.out)
     have q13:(x7_1:Int)≤((l0.length:Int):Int):=dX
     obtain ⟨i013,hi013,_,hsz13,_⟩:=info_parts qA
     have hroom13:l0.length≤c0:=HC0.out
     have hC13:Kd.C gA _ (some ad101) l0.length l0:=HR0.out
     have hcut13:=vY (P:=Try.prog) 61 80 .i64 Try.underlying61 hi013 (some ad101) l0.length c0 x7_1 (dX) q13 hroom13
     have hr13:=Kd.C_take (m:=(x7_1:Int).toNat) hC13 (by omega)
     have hy13:y103.length=(x7_1:Int).toNat:=(by rw [Ny103.out,List.length_take];omega)
     rw [← Ny103.out] at hr13
     rw [← hy13] at hcut13
     have HR106:=aD hr13
     have HC106:=aD (show y103.length≤c0 from by omega)
     clear hr13 hC13 hroom13 hi013 hsz13
     have KY13:=aD hy13
     clear hy13
     replace q13:=eq_true q13
     refine eE (n:=5) (S:=fun w'=>w'.cell? ⟨gb102,0,none⟩=some (.int .i64 ((aA l0 x7_1).f0))∧w'.cell? ⟨gb102,1,none⟩=some (.int .i64 ((aA l0 x7_1).f1))) (ds:=[]) (bm 5 0) (by kernel_rfl) rfl rfl ⟨aT BK102 0,aT BK102 1⟩ (fun hHeld=>?_)
     generalize w11.drew=w12 at BK102 HB HR106 hHeld ⊢
     refine jY (i:=0) (N:=some 12) (v:=?_) (a':=?_) (bm 5 1) rfl rfl (by kernel_rfl) (fun _ _ _ h=>h) (Or.inl ⟨by rfl,?_⟩) ?_ ?_
     rotate_left
     ·intro w'
      go_simp
      with_reducible rfl
     rotate_left
     ·simp only [Act.put,List.setIfInBounds_toArray,List.set_cons_zero,List.set_cons_succ,aZ,bB]
      rfl
     refine jY (i:=1) (N:=some 13) (v:=?_) (a':=?_) (bm 5 3) rfl rfl (by kernel_rfl) (fun _ _ _ h=>h) (Or.inl ⟨by rfl,?_⟩) ?_ ?_
     rotate_left
     ·intro w'
      go_simp
      with_reducible rfl
     rotate_left
     ·simp only [Act.put,List.setIfInBounds_toArray,List.set_cons_zero,List.set_cons_succ,aZ,bB]
      rfl
     refine jY (i:=2) (N:=some 14) (v:=?_) (a':=?_) (bm 5 7) rfl rfl (by kernel_rfl) (fun _ _ _ h=>h) (Or.inl ⟨by rfl,?_⟩) ?_ ?_
     rotate_left
     ·intro w'
      go_simp
      with_reducible rfl
     rotate_left
     ·simp only [Act.put,List.setIfInBounds_toArray,List.set_cons_zero,List.set_cons_succ,aZ,bB]
      rfl
     refine pW (i:=3) (N:=some 15) (v:=?_) (a':=?_) (bm 5 15) rfl rfl (by kernel_rfl) (fun _ _ _ h=>h) (Or.inl ⟨by rfl,?_⟩) hHeld ?_ ?_
     rotate_left
     ·rintro w' ⟨s0,s1⟩
      go_simp
      with_reducible rfl
     rotate_left
     ·simp only [Act.put,List.setIfInBounds_toArray,List.set_cons_zero,List.set_cons_succ,aZ,bB]
      rfl
     refine cS (i:=4) (N:=some 16) (bm 5 31) rfl rfl (by kernel_rfl) (by decide) (fun K hK=>?_)
     refine bP Try.func149 #[.slice (some ad101) y103.length c0,.agg #[.int .i64 ((aA l0 x7_1).f0),.int .i64 ((aA l0 x7_1).f1)]] ?_
     with_reducible refine (jZ k1 _ _ y103 ((aA l0 x7_1).f0) ((aA l0 x7_1).f1) true _ ?side1 ?side2 A7.out).mono ?_
     (case side1=>exact nK (Kd.C_below HR106.out HB.out))
     (case side2=>exact HC106.out)
     rintro e w14 ⟨rfl,hb⟩
     refine ⟨_,rfl,?_⟩
     replace BK102:=aD (aU BK102 hb)
     replace HB:=aD (aE (bM HB) hb)
     (try clear hb)
     refine hK.out _ _ ⟨aT BK102 0,aT BK102 1⟩ (fun hHeld=>?_)
     clear hK K
     refine wH ?_
     refine dD (by kernel_rfl) ?_
     try go_wp2
     go_ret
     exact ⟨dA,bM HB⟩
    ·replace c8:=Bool.eq_false_iff.mpr c8
     subst c8
     rw [if_neg (show ¬ (false=true) by decide)] at H
     have H':=aD H
     clear H
     have p101:0≤(x7_1:Int):=dX
     have q101:x7_1<(l0.length:Int):=dX
     obtain ⟨ad101,e101,hx101_0,hx101_1⟩:=cC HR0.out x7_1 p101 q101
     cases e101
     replace hx101_0:=kT HB hx101_0
     replace hx101_1:=kT HB hx101_1
     replace p101:=eq_true p101
     replace q101:=eq_true q101
     try go_wp2_with (first|((with_reducible refine aW (N:=4) rfl ?_);refine bS (N:=4) #[.int .i64 0,.int .i64 0] 80 ?_;intro gb102 hg w15 hbox hb;have BK102:=aD (hbox);have GW102:=aD ((cZ HB hg));have GE102:=aD ((cZ HB hg));replace HB:=aD (aE (bM HB) hb);clear hb hbox hg;have hcz16_0:=aT BK102 0;have hcz16_1:=aT BK102 1;have hfz16_0:=aC BK102.out 0;have hfz16_1:=aC BK102.out 1))
     replace BK102:Aside0 (((w15.setCell ⟨gb102,0,none⟩ (.int .i64 ((aA l0 x7_1).f0))).setCell ⟨gb102,1,none⟩ (.int .i64 ((aA l0 x7_1).f1))).heap[gb102]? = some (.cells #[.int .i64 ((aA l0 x7_1).f0),.int .i64 ((aA l0 x7_1).f1)] 80 (0,0))):=⟨eW BK102⟩
     replace HB:Aside0 (Below w.heap.size w ((w15.setCell ⟨gb102,0,none⟩ (.int .i64 ((aA l0 x7_1).f0))).setCell ⟨gb102,1,none⟩ (.int .i64 ((aA l0 x7_1).f1)))):=⟨bM HB⟩
     generalize ((w15.setCell ⟨gb102,0,none⟩ (.int .i64 ((aA l0 x7_1).f0))).setCell ⟨gb102,1,none⟩ (.int .i64 ((aA l0 x7_1).f1)))=w17 at BK102 HB ⊢
     replace BK102:=aD (aK BK102.out)
     replace HB:=aD (lC HB.out)
     have q19:(x7_1:Int)≤((l0.length:Int):Int):=dX
     obtain ⟨i019,hi019,_,hsz19,_⟩:=info_parts qA
     have hroom19:l0.length≤c0:=HC0.out
     have hC19:Kd.C gA _ (some ad101) l0.length l0:=HR0.out
     have hcut19:=vY (P:=Try.prog) 61 80 .i64 Try.underlying61 hi019 (some ad101) l0.length c0 x7_1 (dX) q19 hroom19
     have hr19:=Kd.C_take (m:=(x7_1:Int).toNat) hC19 (by omega)
     have hy19:y103.length=(x7_1:Int).toNat:=(by rw [Ny103.out,List.length_take];omega)
     rw [← Ny103.out] at hr19
     rw [← hy19] at hcut19
     have HR106:=aD hr19
     have HC106:=aD (show y103.length≤c0 from by omega)
     clear hr19 hC19 hroom19 hi019 hsz19
     have KY19:=aD hy19
     clear hy19
     replace q19:=eq_true q19
     refine eE (n:=5) (S:=fun w'=>w'.cell? ⟨gb102,0,none⟩=some (.int .i64 ((aA l0 x7_1).f0))∧w'.cell? ⟨gb102,1,none⟩=some (.int .i64 ((aA l0 x7_1).f1))) (ds:=[]) (bm 5 0) (by kernel_rfl) rfl rfl ⟨aT BK102 0,aT BK102 1⟩ (fun hHeld=>?_)
     generalize w17.drew=w18 at BK102 HB HR106 hHeld ⊢
     refine jY (i:=0) (N:=some 12) (v:=?_) (a':=?_) (bm 5 1) rfl rfl (by kernel_rfl) (fun _ _ _ h=>h) (Or.inl ⟨by rfl,?_⟩) ?_ ?_
     rotate_left
     ·intro w'
      go_simp
      with_reducible rfl
     rotate_left
     ·simp only [Act.put,List.setIfInBounds_toArray,List.set_cons_zero,List.set_cons_succ,aZ,bB]
      rfl
     refine jY (i:=1) (N:=some 13) (v:=?_) (a':=?_) (bm 5 3) rfl rfl (by kernel_rfl) (fun _ _ _ h=>h) (Or.inl ⟨by rfl,?_⟩) ?_ ?_
     rotate_left
     ·intro w'
      go_simp
      with_reducible rfl
     rotate_left
     ·simp only [Act.put,List.setIfInBounds_toArray,List.set_cons_zero,List.set_cons_succ,aZ,bB]
      rfl
     refine jY (i:=2) (N:=some 14) (v:=?_) (a':=?_) (bm 5 7) rfl rfl (by kernel_rfl) (fun _ _ _ h=>h) (Or.inl ⟨by rfl,?_⟩) ?_ ?_
     rotate_left
     ·intro w'
      go_simp
      with_reducible rfl
     rotate_left
     ·simp only [Act.put,List.setIfInBounds_toArray,List.set_cons_zero,List.set_cons_succ,aZ,bB]
      rfl
     refine pW (i:=3) (N:=some 15) (v:=?_) (a':=?_) (bm 5 15) rfl rfl (by kernel_rfl) (fun _ _ _ h=>h) (Or.inl ⟨by rfl,?_⟩) hHeld ?_ ?_
     rotate_left
     ·rintro w' ⟨s0,s1⟩
      go_simp
      with_reducible rfl
     rotate_left
     ·simp only [Act.put,List.setIfInBounds_toArray,List.set_cons_zero,List.set_cons_succ,aZ,bB]
      rfl
     refine cS (i:=4) (N:=some 16) (bm 5 31) rfl rfl (by kernel_rfl) (by decide) (fun K hK=>?_)
     refine bP Try.func149 #[.slice (some ad101) y103.length c0,.agg #[.int .i64 ((aA l0 x7_1).f0),.int .i64 ((aA l0 x7_1).f1)]] ?_
     with_reducible refine (jZ k1 _ _ y103 ((aA l0 x7_1).f0) ((aA l0 x7_1).f1) false _ ?side1 ?side2 A7.out).mono ?_
     (case side1=>exact nK (Kd.C_below HR106.out HB.out))
     (case side2=>exact HC106.out)
     rintro e w20 ⟨rfl,hb⟩
     refine ⟨_,rfl,?_⟩
     replace BK102:=aD (aU BK102 hb)
     replace HB:=aD (aE (bM HB) hb)
     (try clear hb)
     refine hK.out _ _ ⟨aT BK102 0,aT BK102 1⟩ (fun hHeld=>?_)
     clear hK K
     refine wH ?_
     refine dD (by kernel_rfl) ?_
     try go_wp2
     go_roundg k1
     case measure=>have:=HK1.out;omega
     case rel=>exact ⟨(wrap64 (x7_1+1)),eO,H',⟨by have:=HK1.out;omega⟩,⟨bM HB⟩⟩
   ·rcases kK H with ⟨c21,H⟩|⟨c21,H⟩
    ·have c21b0:((l0.length:Int)==6)=true:=beq_iff_eq.mpr c21
     have c21b1:((l0.length:Int) != 6)=false:=bne_eq_false_iff_eq.mpr c21
     clear c21
     replace H:=fQ H
     obtain ⟨t108,A22,H⟩:=H
     obtain rfl:=Option.some.inj H
     go_wp2_with (first|(go_at_call 150;(with_reducible refine (qK 20 _ _ l0 t108 _ ?side1 ?side2 A22.out).mono ?_);(case side1=>exact nK (Kd.C_below HR0.out HB.out));(case side2=>exact HC0.out);rintro e w23 ⟨rfl,hb⟩;replace HB:=aD (aE (bM HB) hb);(try clear hb)))
     go_ret
     exact ⟨dA,bM HB⟩
    ·have c21b0:((l0.length:Int)==6)=false:=beq_eq_false_iff_ne.mpr c21
     have c21b1:((l0.length:Int) != 6)=true:=bne_iff_ne.mpr c21
     obtain rfl:=Option.some.inj H
     go_wp2
     go_ret
     exact ⟨dA,bM HB⟩
/-! ### impl_area: function 133 -/
def impl_area.f (a0_0:Int) (a0_1:Int) (a1_0:Int) (a1_1:Int) (a2_0:Int) (a2_1:Int):Option (Int):=some (wrap64 ((wrap64 ((wrap64 (a1_0-a0_0))*(wrap64 (a2_1-a0_1))))-(wrap64 ((wrap64 (a1_1-a0_1))*(wrap64 (a2_0-a0_0))))))
set_option maxHeartbeats 8000000 in
set_option maxRecDepth 100000 in
theorem gZ (a0_0:Int) (a0_1:Int) (a1_0:Int) (a1_1:Int) (a2_0:Int) (a2_1:Int) (r:Int) (w:World) (h:impl_area.f a0_0 a0_1 a1_0 a1_1 a2_0 a2_1=some r) :
  Calls Try.prog 133 #[.agg #[.int .i64 a0_0,.int .i64 a0_1],.agg #[.int .i64 a1_0,.int .i64 a1_1],.agg #[.int .i64 a2_0,.int .i64 a2_1]] w fun e w'=>e=.returned (.int .i64 r)∧Below w.heap.size w w':=by
 have hu80:=Try.underlying80
 have HB:=aD (Below.refl w.heap.size w)
 unfold impl_area.f at h
 have H:=h
 clear h
 obtain rfl:=Option.some.inj H
 go_enter Try.func133,Try.ntmps133
 go_wp2_with (first|((with_reducible refine aW (N:=3) rfl ?_);refine bS (N:=3) #[.int .i64 a0_0,.int .i64 a0_1] 80 ?_;intro gb101 hg w4 hbox hb;have BK101:=aD (hbox);have GW101:=aD ((cZ HB hg));have GE101:=aD ((cZ HB hg));replace HB:=aD (aE (bM HB) hb);clear hb hbox hg)|((with_reducible refine aW (N:=4) rfl ?_);refine bS (N:=4) #[.int .i64 a1_0,.int .i64 a1_1] 80 ?_;intro gb102 hg w5 hbox hb;have BK102:=aD (hbox);have GW102:=aD ((cZ HB hg));have GE102:=aD ((cZ HB hg));replace HB:=aD (aE (bM HB) hb);have NB101_102:=aD ((bW BK101 hg));have NB102_101:=aD ((bX BK101 hg));replace BK101:=aD (aU BK101 hb);clear hb hbox hg)|((with_reducible refine aW (N:=5) rfl ?_);refine bS (N:=5) #[.int .i64 a2_0,.int .i64 a2_1] 80 ?_;intro gb103 hg w6 hbox hb;have BK103:=aD (hbox);have GW103:=aD ((cZ HB hg));have GE103:=aD ((cZ HB hg));replace HB:=aD (aE (bM HB) hb);have NB101_103:=aD ((bW BK101 hg));have NB103_101:=aD ((bX BK101 hg));replace BK101:=aD (aU BK101 hb);have NB102_103:=aD ((bW BK102 hg));have NB103_102:=aD ((bX BK102 hg));replace BK102:=aD (aU BK102 hb);clear hb hbox hg;have hnb7:=NB102_101.out;have hnc7:=NB101_102.out;have hnb8:=NB102_103.out;have hnc8:=NB103_102.out;have hcz9_0:=aT BK102 0;have hcz9_1:=aT BK102 1;have hfz9_0:=aC BK102.out 0;have hfz9_1:=aC BK102.out 1;have hnb10:=NB101_103.out;have hnc10:=NB103_101.out;have hcz11_0:=aT BK101 0;have hcz11_1:=aT BK101 1;have hfz11_0:=aC BK101.out 0;have hfz11_1:=aC BK101.out 1;have hcz12_0:=aT BK103 0;have hcz12_1:=aT BK103 1;have hfz12_0:=aC BK103.out 0;have hfz12_1:=aC BK103.out 1))
 go_ret
 exact ⟨dA,bM HB⟩
/-! ### impl_edgesOf: function 134 -/
mutual
def gI:Nat→Int→List (kI)→Int→Option ((List (kI)))
 | 0,_,_,_=>none
 | k+1,x0,x3,x4=>if x4<x0 then (gJ k x0 x3 x4 (wrap64 (x4+1))) else (some x3)
def gJ:Nat→Int→List (kI)→Int→Int→Option ((List (kI)))
 | 0,_,_,_,_=>none
 | k+1,x0,x3,x4,x5=>if x5<x0 then (if x3.length<8796093022208 then (gJ k x0 (x3++[(⟨x4,x5⟩:kI)]) x4 (wrap64 (x5+1))) else (none)) else (gI k x0 x3 (wrap64 (x4+1)))
end
def impl_edgesOf.f (k:Nat) (a0:Int):Option ((List (kI))):=gI k a0 ([]:List (kI)) 0
set_option maxHeartbeats 8000000 in
set_option maxRecDepth 100000 in
theorem qL (k:Nat) (a0:Int) (r:List (kI)) (w:World) (h:impl_edgesOf.f k a0=some r) :
  Calls Try.prog 134 #[.int .i64 a0] w fun e w'=>∃ v0_:Value,e=.returned (v0_)∧Kd.R wZ 123 w' w.heap.size (fun _=>True) v0_ r∧Below w.heap.size w w':=by
 have hu123:=Try.underlying123
 have HB:=aD (Below.refl w.heap.size w)
 unfold impl_edgesOf.f at h
 have H:=h
 clear h
 have H':=aD H
 clear H
 go_enter Try.func134,Try.ntmps134
 go_wp2
 go_loopg [3,4] k (fun kq v3 v4 w'=>∃ (x3_1:List (kI)) (x4_1:Int),v4=.int .i64 x4_1∧Aside0 (gI kq a0 x3_1 x4_1=some r)∧Aside0 (kq≤k)∧Aside0 (Kd.R wZ 123 w' w.heap.size (fun _=>True) v3 x3_1)∧Aside0 (Below w.heap.size w w'))
 case atStart=>exact ⟨(([]:List (kI))),(0),eO,H',⟨Nat.le_refl _⟩,⟨by first|exact Kd.R_nil _ _ _ _ _|exact Kd.N_nil _ _ _ _ _|exact Kd.V_nil _ _ _ _ _|exact Kd.Q_nil _ _ _ _ _|exact Kd.S_nil _ _ _ _ _⟩,⟨bM HB⟩⟩
 case round =>
  clear H'
  obtain ⟨x3_1,x4_1,rfl,HA,HK1,HO_3,HB⟩:=hrel
  cases gk with
  | zero=>exact absurd HA.out (by simp [gI])
  | succ k1 =>
   have H:=HA.out
   clear HA
   simp only [gI] at H
   rcases mJ H with ⟨c2b0,H⟩|⟨c2b0,H⟩
   ·have H':=aD H
    clear H
    go_wp2
    go_loopg [3,5] k1 (fun kq v3 v5 w'=>∃ (x3_2:List (kI)) (x5_2:Int),v5=.int .i64 x5_2∧Aside0 (gJ kq a0 x3_2 x4_1 x5_2=some r)∧Aside0 (kq≤k1)∧Aside0 (Kd.R wZ 123 w' w.heap.size (fun _=>True) v3 x3_2)∧Aside0 (Below w.heap.size w w'))
    case atStart=>exact ⟨(x3_1),(wrap64 (x4_1+1)),eO,H',⟨Nat.le_refl _⟩,⟨bN HO_3⟩,⟨bM HB⟩⟩
    case round =>
     clear H'
     try clear c2b0
     obtain ⟨x3_2,x5_2,rfl,HA,HK2,HO_3,HB⟩:=hrel
     cases gk with
     | zero=>exact absurd HA.out (by simp [gJ])
     | succ k2 =>
      have H:=HA.out
      clear HA
      simp only [gJ] at H
      rcases mJ H with ⟨c3b0,H⟩|⟨c3b0,H⟩
      ·obtain ⟨c4,H⟩:=iC H
       have LMc4:=aD c4
       clear c4
       obtain ⟨y101,hy101⟩:∃ y_:List (kI),y_=(x3_2++[(⟨x4_1,x5_2⟩:kI)]):=⟨_,rfl⟩
       first|(with_reducible replace H:=uU hy101 H)|(with_reducible replace H:=uV hy101 H)|rw [← hy101] at H
       have Ny101:=aD hy101
       clear hy101
       have H':=aD H
       clear H
       go_wp2_with (first|((with_reducible refine fL (b:=.append) (xs:=#[.tmp 18,.tmp 22]) rfl ?_);at_builtin;refine Kd.R_append wZ (w0:=w) w.heap.size rfl (.tmp 18) (.tmp 22) 121 123 (.agg #[(.int .i64 0),(.int .i64 0)]) 16 rfl Try.underlying121 CA rfl (by decide) (by omega) u3 x3_2 (⟨x4_1,x5_2⟩:kI) [.int .i64 x4_1,.int .i64 x5_2] (fun _=>True) (fun _=>False) rfl rfl ?aP (fun _ hk=>hk.elim) ?aF ?aO ?aB ?aS ?aL ?_;(case aP=>exact AY _ _ _ (⟨x4_1,x5_2⟩:kI));(case aB=>exact (bM HB));(case aF=>exact (fun _ _=>trivial));(case aO=>exact (bN HO_3));(case aS=>exact (aM (bM HB)));(case aL=>have:=LMc4.out;omega);intro v102 w5 ho hb hg hat;rw [← Ny101.out] at ho;replace HB:=aD (hb);have HO103:=aD (ho);clear HO_3;clear ho hb hg hat))
       go_roundg k2
       case measure=>have:=HK1.out;have:=HK2.out;omega
       case rel=>exact ⟨(y101),(wrap64 (x5_2+1)),eO,H',⟨by have:=HK1.out;have:=HK2.out;omega⟩,⟨bN HO103⟩,⟨bM HB⟩⟩
      ·have H':=aD H
       clear H
       go_wp2
       go_roundg k2
       case measure=>have:=HK1.out;have:=HK2.out;omega
       case rel=>exact ⟨(x3_2),(wrap64 (x4_1+1)),eO,H',⟨by have:=HK1.out;have:=HK2.out;omega⟩,⟨bN HO_3⟩,⟨bM HB⟩⟩
   ·obtain rfl:=Option.some.inj H
    go_wp2
    go_ret
    exact ⟨_,dA,bN HO_3,bM HB⟩
/-! ### impl_DesarguesOf: function 75 -/
def pt (l:List dB) (i:Int):dB:=aA l i
def DR (k:Nat) (a b:dB):Option (Int×Int×Int):=impl_through.f k a.f0 a.f1 b.f0 b.f1
abbrev TR:=eV
def dL:Nat→List dB→List kI→List TR→Int→Option (List TR×Bool)
 | 0,_,_,_,_=>none
 | k+1,l,es,out,i=>if i<(es.length:Int) then (if 0≤i∧0≤(iX es i).f0∧(iX es i).f0<3∧0≤(iX es i).f1∧(iX es i).f1<3 then (DR k (pt l (iX es i).f0) (pt l (iX es i).f1)).bind fun t=>(DR k (pt l ((iX es i).f0+3)) (pt l ((iX es i).f1+3))).bind fun u=>(impl_areOneLine.f k t.1 t.2.1 t.2.2 u.1 u.2.1 u.2.2).bind fun b=>(if b=true then some ([],false) else (impl_CrossOf.f k t.1 t.2.1 t.2.2 u.1 u.2.1 u.2.2).bind fun c=>if out.length<1000000 then dL k l es (out++[⟨c.1,c.2.1,c.2.2⟩]) (i+1) else none) else none) else some (out,true)
def ar (l:List dB) (i:Int):Option Int:=impl_area.f (pt l i).f0 (pt l i).f1 (pt l (i+1)).f0 (pt l (i+1)).f1 (pt l (i+2)).f0 (pt l (i+2)).f1
def impl_DesarguesOf.f (k:Nat) (l0:List dB):Option (List TR×Bool):=(impl_areSix.f k l0).bind fun b=>if b=true then (if l0.length=6 then (ar l0 0).bind fun x=>(if x=0 then some ([],false) else (ar l0 3).bind fun y=>(if y=0 then some ([],false) else (impl_edgesOf.f k 3).bind fun es=>dL k l0 es [] 0)) else none) else some ([],false)
set_option maxHeartbeats 4000000 in
set_option maxRecDepth 100000 in
theorem gX (k : Nat) (A0 : Option Addr) (c0 : Nat) (l0 : List dB) (r1 : List TR) (r2 : Bool) (w : World) (hr0 : Kd.C gA w A0 l0.length l0) (hc0 : l0.length ≤ c0) (h : impl_DesarguesOf.f k l0 = some (r1, r2)) :
  Calls Try.prog 75 #[.slice A0 l0.length c0] w fun e w'=>∃ v0_:Value,e=.returned (.tuple #[v0_,.bool r2])∧Kd.R gG 72 w' w.heap.size (fun _=>True) v0_ r1∧Below w.heap.size w w':=by
 have HR:=aD hr0
 have HC:=aD hc0
 have HB:=aD (Below.refl w.heap.size w)
 unfold impl_DesarguesOf.f at h
 obtain ⟨b,hb,h⟩:=iS h
 have HA1:=aD hb
 clear hr0 hc0 hb
 have hup:=Try.underlying80
 have hut:=Try.underlying72
 have hue:=Try.underlying123
 cases b with
 | false =>
  obtain ⟨rfl,rfl⟩:=Prod.mk.inj (Option.some.inj (show some (([]:List TR),false)=some (r1,r2) from h))
  clear h
  go_enter Try.func75,Try.ntmps75
  go_wp2
  refine dH (S:=fun w'=>Below w.heap.size w w') 29 w.heap.size [] (by kernel_rfl) (by kernel_rfl) (cB (Below.refl _ _)) (fun _ _ h1 h2=>h1.trans h2) (fun _ h1=>h1.size) ?_
  iterate 29 (first
   | (refine fZ (a':=?_) (.bool false) rfl rfl Try.func128 rfl rfl rfl (by rfl) (by kernel_rfl) rfl #[.slice A0 l0.length c0] (by (try simp only [List.map_toArray,List.map_cons,List.map_nil]);rfl) ?_ ?_ ?_;rotate_left;(· rintro w' hb';with_reducible refine (iB k A0 c0 l0 false _ (Kd.C_below HR.out hb') HC.out HA1.out).mono ?_;rintro e w1 ⟨rfl,hb1⟩;exact ⟨rfl,hb1⟩);(· simp only [Act.put,List.setIfInBounds_toArray,List.set_cons_zero,List.set_cons_succ,aZ,bB];rfl))
   | (refine eH (v:=?_) (a':=?_) rfl rfl rfl rfl (by rfl) ?_ ?_ ?_;rotate_left 2;(· rintro w' hb';go_simp;with_reducible rfl);(· simp only [Act.put,List.setIfInBounds_toArray,List.set_cons_zero,List.set_cons_succ,aZ,bB];rfl))
   | (refine qG (a':=?_) rfl rfl rfl rfl (by rfl) ?_ ?_;rotate_left;(· simp only [Act.put,List.setIfInBounds_toArray,List.set_cons_zero,List.set_cons_succ,aZ,bB];rfl)))
  refine fB ?_
  intro w2 hb2
  refine dD (by kernel_rfl) ?_
  go_wp2
  go_ret2
  exact ⟨_,rfl,Kd.R_nil _ _ _ _ _,hb2⟩
 | true =>
  rw [if_pos rfl] at h
  by_cases h6:l0.length=6
  case neg=>rw [if_neg h6] at h;cases h
  rw [if_pos h6] at h
  obtain ⟨x,hx,h⟩:=iS h
  have H6:=aD h6
  have HAX:=aD (show impl_area.f (aA l0 0).f0 (aA l0 0).f1 (aA l0 1).f0 (aA l0 1).f1 (aA l0 2).f0 (aA l0 2).f1=some x from hx)
  have HH:=aD h
  clear h6 hx h
  obtain ⟨ad,rfl,hp0,hp1⟩:=cC HR.out 0 (by omega) (by have:=H6.out;omega)
  obtain ⟨ad',e',hp2,hp3⟩:=cC HR.out 1 (by omega) (by have:=H6.out;omega)
  cases e'
  obtain ⟨ad',e',hp4,hp5⟩:=cC HR.out 2 (by omega) (by have:=H6.out;omega)
  cases e'
  obtain ⟨ad',e',hp6,hp7⟩:=cC HR.out 3 (by omega) (by have:=H6.out;omega)
  cases e'
  obtain ⟨ad',e',hp8,hp9⟩:=cC HR.out 4 (by omega) (by have:=H6.out;omega)
  cases e'
  obtain ⟨ad',e',hp10,hp11⟩:=cC HR.out 5 (by omega) (by have:=H6.out;omega)
  cases e'
  simp only [Int.reduceToNat,Nat.reduceMul,Addr.add_zero'] at hp0 hp1
  simp only [Int.reduceToNat,Nat.reduceMul,Nat.reduceEqDiff,Nat.add_assoc,Nat.reduceAdd,Go.Addr.add,↓reduceIte] at hp2 hp3 hp4 hp5 hp6 hp7 hp8 hp9 hp10 hp11
  have HAS:=aD (show ∀ w',Below w.heap.size w w'→Calls Try.prog 128 #[.slice (some ad) 6 c0] w' fun e w1=>e=.returned (.bool true)∧Below w'.heap.size w' w1 by
   intro w' hb'
   have:=iB k (some ad) c0 l0 true w' (Kd.C_below HR.out hb') HC.out HA1.out
   rwa [H6.out] at this)
  rw [H6.out]
  go_enter Try.func75,Try.ntmps75
  go_wp2
  by_cases cx:x=0
  ·subst cx
   obtain ⟨rfl,rfl⟩:=Prod.mk.inj (Option.some.inj (show some (([]:List TR),false)=some (r1,r2) from by have:=HH.out;rwa [if_pos rfl] at this))
   refine dH (S:=fun w'=>Below w.heap.size w w') 29 w.heap.size [] (by kernel_rfl) (by kernel_rfl) (cB (Below.refl _ _)) (fun _ _ h1 h2=>h1.trans h2) (fun _ h1=>h1.size) ?_
   iterate 29 (first
    | (refine eH (v:=?_) (a':=?_) rfl rfl rfl rfl (by rfl) ?_ ?_ ?_;rotate_left 2;(· rintro w' hb';go_simp;with_reducible rfl);(· simp only [Act.put,List.setIfInBounds_toArray,List.set_cons_zero,List.set_cons_succ,aZ,bB];rfl))
    | (refine eH (v:=?_) (a':=?_) rfl rfl rfl rfl (by rfl) ?_ ?_ ?_;rotate_left 2;(· rintro w' hb';have s0:=aG hb' hp0;have s1:=aG hb' hp1;have s2:=aG hb' hp2;have s3:=aG hb' hp3;have s4:=aG hb' hp4;have s5:=aG hb' hp5;have s6:=aG hb' hp6;have s7:=aG hb' hp7;have s8:=aG hb' hp8;have s9:=aG hb' hp9;have s10:=aG hb' hp10;have s11:=aG hb' hp11;go_simp;with_reducible rfl);(· simp only [Act.put,List.setIfInBounds_toArray,List.set_cons_zero,List.set_cons_succ,aZ,bB];rfl))
    | (refine fZ (a':=?_) (.bool true) rfl rfl Try.func128 rfl rfl rfl (by rfl) (by kernel_rfl) rfl #[.slice (some ad) 6 c0] (by (try simp only [List.map_toArray,List.map_cons,List.map_nil]);rfl) ?_ ?_ ?_;rotate_left;(· rintro w' hb';exact HAS.out w' hb');(· simp only [Act.put,List.setIfInBounds_toArray,List.set_cons_zero,List.set_cons_succ,aZ,bB];rfl))
    | (refine fZ (a':=?_) (.int .i64 0) rfl rfl Try.func133 rfl rfl rfl (by rfl) (by kernel_rfl) rfl #[.agg #[.int .i64 (aA l0 0).f0,.int .i64 (aA l0 0).f1],.agg #[.int .i64 (aA l0 1).f0,.int .i64 (aA l0 1).f1],.agg #[.int .i64 (aA l0 2).f0,.int .i64 (aA l0 2).f1]] (by (try simp only [List.map_toArray,List.map_cons,List.map_nil]);rfl) ?_ ?_ ?_;rotate_left;(· rintro w' hb';with_reducible refine (gZ _ _ _ _ _ _ _ _ HAX.out).mono ?_;rintro e w1 ⟨rfl,hb1⟩;exact ⟨rfl,hb1⟩);(· simp only [Act.put,List.setIfInBounds_toArray,List.set_cons_zero,List.set_cons_succ,aZ,bB];rfl))
    | (refine qG (a':=?_) rfl rfl rfl rfl (by rfl) ?_ ?_;rotate_left;(· simp only [Act.put,List.setIfInBounds_toArray,List.set_cons_zero,List.set_cons_succ,aZ,bB];rfl)))
   refine fB ?_
   intro w2 hb2
   refine dD (by kernel_rfl) ?_
   go_wp2
   go_ret2
   exact ⟨_,rfl,Kd.R_nil _ _ _ _ _,hb2⟩
  ·have cxb : (x == 0) = false := beq_eq_false_iff_ne.mpr cx
   have h:=HH.out
   rw [if_neg cx] at h
   obtain ⟨y,hy,h⟩:=iS h
   have HAY:=aD (show impl_area.f (aA l0 3).f0 (aA l0 3).f1 (aA l0 4).f0 (aA l0 4).f1 (aA l0 5).f0 (aA l0 5).f1=some y from hy)
   have HH2:=aD h
   clear h hy HH cx
   by_cases cy:y=0
   ·subst cy
    obtain ⟨rfl,rfl⟩:=Prod.mk.inj (Option.some.inj (show some (([]:List TR),false)=some (r1,r2) from by have:=HH2.out;rwa [if_pos rfl] at this))
    refine dH (S:=fun w'=>Below w.heap.size w w') 29 w.heap.size [] (by kernel_rfl) (by kernel_rfl) (cB (Below.refl _ _)) (fun _ _ h1 h2=>h1.trans h2) (fun _ h1=>h1.size) ?_
    iterate 29 (first
     | (refine eH (v:=?_) (a':=?_) rfl rfl rfl rfl (by rfl) ?_ ?_ ?_;rotate_left 2;(· rintro w' hb';go_simp;with_reducible rfl);(· simp only [Act.put,List.setIfInBounds_toArray,List.set_cons_zero,List.set_cons_succ,aZ,bB];rfl))
     | (refine eH (v:=?_) (a':=?_) rfl rfl rfl rfl (by rfl) ?_ ?_ ?_;rotate_left 2;(· rintro w' hb';have s0:=aG hb' hp0;have s1:=aG hb' hp1;have s2:=aG hb' hp2;have s3:=aG hb' hp3;have s4:=aG hb' hp4;have s5:=aG hb' hp5;have s6:=aG hb' hp6;have s7:=aG hb' hp7;have s8:=aG hb' hp8;have s9:=aG hb' hp9;have s10:=aG hb' hp10;have s11:=aG hb' hp11;go_simp;with_reducible rfl);(· simp only [Act.put,List.setIfInBounds_toArray,List.set_cons_zero,List.set_cons_succ,aZ,bB];rfl))
     | (refine fZ (a':=?_) (.bool true) rfl rfl Try.func128 rfl rfl rfl (by rfl) (by kernel_rfl) rfl #[.slice (some ad) 6 c0] (by (try simp only [List.map_toArray,List.map_cons,List.map_nil]);rfl) ?_ ?_ ?_;rotate_left;(· rintro w' hb';exact HAS.out w' hb');(· simp only [Act.put,List.setIfInBounds_toArray,List.set_cons_zero,List.set_cons_succ,aZ,bB];rfl))
     | (refine fZ (a':=?_) (.int .i64 x) rfl rfl Try.func133 rfl rfl rfl (by rfl) (by kernel_rfl) rfl #[.agg #[.int .i64 (aA l0 0).f0,.int .i64 (aA l0 0).f1],.agg #[.int .i64 (aA l0 1).f0,.int .i64 (aA l0 1).f1],.agg #[.int .i64 (aA l0 2).f0,.int .i64 (aA l0 2).f1]] (by (try simp only [List.map_toArray,List.map_cons,List.map_nil]);rfl) ?_ ?_ ?_;rotate_left;(· rintro w' hb';with_reducible refine (gZ _ _ _ _ _ _ _ _ HAX.out).mono ?_;rintro e w1 ⟨rfl,hb1⟩;exact ⟨rfl,hb1⟩);(· simp only [Act.put,List.setIfInBounds_toArray,List.set_cons_zero,List.set_cons_succ,aZ,bB];rfl))
     | (refine fZ (a':=?_) (.int .i64 0) rfl rfl Try.func133 rfl rfl rfl (by rfl) (by kernel_rfl) rfl #[.agg #[.int .i64 (aA l0 3).f0,.int .i64 (aA l0 3).f1],.agg #[.int .i64 (aA l0 4).f0,.int .i64 (aA l0 4).f1],.agg #[.int .i64 (aA l0 5).f0,.int .i64 (aA l0 5).f1]] (by (try simp only [List.map_toArray,List.map_cons,List.map_nil]);rfl) ?_ ?_ ?_;rotate_left;(· rintro w' hb';with_reducible refine (gZ _ _ _ _ _ _ _ _ HAY.out).mono ?_;rintro e w1 ⟨rfl,hb1⟩;exact ⟨rfl,hb1⟩);(· simp only [Act.put,List.setIfInBounds_toArray,List.set_cons_zero,List.set_cons_succ,aZ,bB];rfl))
     | (refine qG (a':=?_) rfl rfl rfl rfl (by rfl) ?_ ?_;rotate_left;(· simp only [Act.put,List.setIfInBounds_toArray,List.set_cons_zero,List.set_cons_succ,aZ,bB];rfl)))
    refine fB ?_
    intro w2 hb2
    refine dD (by kernel_rfl) ?_
    go_wp2
    go_ret2
    exact ⟨_,rfl,Kd.R_nil _ _ _ _ _,hb2⟩
   ·have cyb : (y == 0) = false := beq_eq_false_iff_ne.mpr cy
    have h:=HH2.out
    rw [if_neg cy] at h
    obtain ⟨es,he,h⟩:=iS h
    have HES:=aD he
    have H':=aD h
    clear h he HH2 cy
    refine dH (S:=fun w'=>Below w.heap.size w w') 29 w.heap.size [] (by kernel_rfl) (by kernel_rfl) (cB (Below.refl _ _)) (fun _ _ h1 h2=>h1.trans h2) (fun _ h1=>h1.size) ?_
    iterate 29 (first
     | (refine eH (v:=?_) (a':=?_) rfl rfl rfl rfl (by rfl) ?_ ?_ ?_;rotate_left 2;(· rintro w' hb';go_simp;with_reducible rfl);(· simp only [Act.put,List.setIfInBounds_toArray,List.set_cons_zero,List.set_cons_succ,aZ,bB];rfl))
     | (refine eH (v:=?_) (a':=?_) rfl rfl rfl rfl (by rfl) ?_ ?_ ?_;rotate_left 2;(· rintro w' hb';have s0:=aG hb' hp0;have s1:=aG hb' hp1;have s2:=aG hb' hp2;have s3:=aG hb' hp3;have s4:=aG hb' hp4;have s5:=aG hb' hp5;have s6:=aG hb' hp6;have s7:=aG hb' hp7;have s8:=aG hb' hp8;have s9:=aG hb' hp9;have s10:=aG hb' hp10;have s11:=aG hb' hp11;go_simp;with_reducible rfl);(· simp only [Act.put,List.setIfInBounds_toArray,List.set_cons_zero,List.set_cons_succ,aZ,bB];rfl))
     | (refine fZ (a':=?_) (.bool true) rfl rfl Try.func128 rfl rfl rfl (by rfl) (by kernel_rfl) rfl #[.slice (some ad) 6 c0] (by (try simp only [List.map_toArray,List.map_cons,List.map_nil]);rfl) ?_ ?_ ?_;rotate_left;(· rintro w' hb';exact HAS.out w' hb');(· simp only [Act.put,List.setIfInBounds_toArray,List.set_cons_zero,List.set_cons_succ,aZ,bB];rfl))
     | (refine fZ (a':=?_) (.int .i64 x) rfl rfl Try.func133 rfl rfl rfl (by rfl) (by kernel_rfl) rfl #[.agg #[.int .i64 (aA l0 0).f0,.int .i64 (aA l0 0).f1],.agg #[.int .i64 (aA l0 1).f0,.int .i64 (aA l0 1).f1],.agg #[.int .i64 (aA l0 2).f0,.int .i64 (aA l0 2).f1]] (by (try simp only [List.map_toArray,List.map_cons,List.map_nil]);rfl) ?_ ?_ ?_;rotate_left;(· rintro w' hb';with_reducible refine (gZ _ _ _ _ _ _ _ _ HAX.out).mono ?_;rintro e w1 ⟨rfl,hb1⟩;exact ⟨rfl,hb1⟩);(· simp only [Act.put,List.setIfInBounds_toArray,List.set_cons_zero,List.set_cons_succ,aZ,bB];rfl))
     | (refine fZ (a':=?_) (.int .i64 y) rfl rfl Try.func133 rfl rfl rfl (by rfl) (by kernel_rfl) rfl #[.agg #[.int .i64 (aA l0 3).f0,.int .i64 (aA l0 3).f1],.agg #[.int .i64 (aA l0 4).f0,.int .i64 (aA l0 4).f1],.agg #[.int .i64 (aA l0 5).f0,.int .i64 (aA l0 5).f1]] (by (try simp only [List.map_toArray,List.map_cons,List.map_nil]);rfl) ?_ ?_ ?_;rotate_left;(· rintro w' hb';with_reducible refine (gZ _ _ _ _ _ _ _ _ HAY.out).mono ?_;rintro e w1 ⟨rfl,hb1⟩;exact ⟨rfl,hb1⟩);(· simp only [Act.put,List.setIfInBounds_toArray,List.set_cons_zero,List.set_cons_succ,aZ,bB];rfl))
     | (refine qG (a':=?_) rfl rfl rfl rfl (by rfl) ?_ ?_;rotate_left;(· simp only [Act.put,List.setIfInBounds_toArray,List.set_cons_zero,List.set_cons_succ,aZ,bB];rfl)))
    refine fB ?_
    intro w2 hb2
    refine dD (by kernel_rfl) ?_
    have HB:=aD hb2
    clear hb2 hp0 hp1 hp2 hp3 hp4 hp5 hp6 hp7 hp8 hp9 hp10 hp11 cxb cyb HAX HAY HAS
    go_wp2_with (first|(go_at_call 134;(with_reducible refine (qL k 3 es _ HES.out).mono ?_);rintro e w3 ⟨v3,rfl,ho3,hb3⟩;obtain ⟨A3,c3,rfl⟩:=Kd.R_slice ho3;have HE:=aD ho3;have HE2:=aD (aM HB.out);have m0_:=aD (aE HB.out hb3);clear HB ho3 hb3;have HB:=m0_;clear m0_))
    have HE3:=aD (Kd.R_tight rfl HE.out)
    clear HE
    go_loopg [4,40] k (fun kq v4 v40 wr=>∃ (out:List TR) (i:Nat),v40=.int .i64 i∧i≤es.length∧Aside0 (dL kq l0 es out i=some (r1,r2))∧Aside0 (kq≤k)∧Aside0 (Kd.R gG 72 wr w.heap.size (fun k_=>some k_≠(Value.slice A3 es.length c3).ownBlock) v4 out)∧Aside0 (Kd.R wZ 123 wr w2.heap.size (fun k_=>some k_=(Value.slice A3 es.length c3).ownBlock) (.slice A3 es.length c3) es)∧Aside0 (Below w.heap.size w wr))
    case atStart=>exact ⟨[],0,rfl,Nat.zero_le _,H',⟨Nat.le_refl _⟩,⟨Kd.R_nil _ _ _ _ _⟩,HE3,HB⟩
    case round =>
     clear HB HE3 H'
     obtain ⟨out,i,rfl,hil,HA,HK1,HO,HE,HB⟩:=hrel
     cases gk with
     | zero=>exact absurd HA.out (by simp [dL])
     | succ k1 =>
      have H:=HA.out
      clear HA
      simp only [dL] at H
      have hel:es.length≤9223372036854775807:=(Kd.R_reads' HE.out).2.2.2.1
      by_cases hlt:i<es.length
      ·have hltz:(i:Int)<(es.length:Int):=by omega
       have HEL:=aD hel
       rw [if_pos hltz] at H
       obtain ⟨ade,eA,he0,he1⟩:=CC (Kd.R_reads' HE.out).2.2 (i:Int) (by omega) hltz
       subst eA
       simp only [Int.toNat_natCast] at he0 he1
       generalize iX es (i:Int)=e at he0 he1 H
       by_cases hg:0≤(i:Int)∧0≤e.f0∧e.f0<3∧0≤e.f1∧e.f1<3
       case neg=>rw [if_neg hg] at H;cases H
       rw [if_pos hg] at H
       obtain ⟨⟨t1,t2,t3⟩,ht,H⟩:=iS H
       obtain ⟨⟨u1,u2,u3'⟩,hu,H⟩:=iS H
       obtain ⟨b,hb,H⟩:=iS H
       have HT:=aD ht
       have HU:=aD hu
       have HQ:=aD hb
       have HF:=aD H
       clear ht hu hb H hel
       go_wp2_with fail
       have HGA:=aD (show (wr.alloc (.cells #[.int .i64 e.f0,.int .i64 e.f1] 123)).heap[wr.heap.size]? = some (.cells #[.int .i64 e.f0,.int .i64 e.f1] 123 (0,0)) from heap_alloc_new _ _)
       have HO1:=aD (show Kd.R gG 72 (wr.alloc (.cells #[.int .i64 e.f0,.int .i64 e.f1] 123)) w.heap.size (fun k_=>some k_≠(Value.slice (some ade) es.length c3).ownBlock) u4 out from fK HO.out _)
       have HE1:=aD (fK HE.out (.cells #[.int .i64 e.f0,.int .i64 e.f1] 123))
       have HB1:=aD (qH HB.out (.cells #[.int .i64 e.f0,.int .i64 e.f1] 123))
       have hbl:=aM HB.out
       generalize hga:wr.heap.size=ga at HGA hbl ⊢
       have HBL:=aD hbl
       clear HO HE HB he0 he1 hga hbl
       generalize wr.alloc (.cells #[.int .i64 e.f0,.int .i64 e.f1] 123)=w4 at HGA HO1 HE1 HB1 ⊢
       obtain ⟨z2,hz2⟩:∃ z,e.f0+3=z:=⟨_,rfl⟩
       obtain ⟨z3,hz3⟩:∃ z,e.f1+3=z:=⟨_,rfl⟩
       rw [hz2,hz3] at HU
       have HGE:=aD (show (0≤e.f0∧e.f0<3∧0≤e.f1∧e.f1<3)∧0≤z2∧z2<6∧0≤z3∧z3<6 by omega)
       have HW_f0:=aD (show wrap64 (e.f0+3)=z2 by have:=HGE.out;unfold wrap64;omega)
       have HW_f1:=aD (show wrap64 (e.f1+3)=z3 by have:=HGE.out;unfold wrap64;omega)
       clear hg hz2 hz3
       obtain ⟨ad0,eA,hq0,hq1⟩:=cC (Kd.C_below HR.out HB1.out) (e.f0) (by have:=HGE.out;omega) (by have:=HGE.out;have:=H6.out;omega)
       cases eA
       obtain ⟨ad1,eA,hq2,hq3⟩:=cC (Kd.C_below HR.out HB1.out) (e.f1) (by have:=HGE.out;omega) (by have:=HGE.out;have:=H6.out;omega)
       cases eA
       obtain ⟨ad2,eA,hq4,hq5⟩:=cC (Kd.C_below HR.out HB1.out) (z2) (by have:=HGE.out;omega) (by have:=HGE.out;have:=H6.out;omega)
       cases eA
       obtain ⟨ad3,eA,hq6,hq7⟩:=cC (Kd.C_below HR.out HB1.out) (z3) (by have:=HGE.out;omega) (by have:=HGE.out;have:=H6.out;omega)
       cases eA
       have hl0:(0≤e.f0)=True:=eq_true (by have:=HGE.out;omega)
       have hu0:(e.f0<6)=True:=eq_true (by have:=HGE.out;omega)
       have hl1:(0≤e.f1)=True:=eq_true (by have:=HGE.out;omega)
       have hu1:(e.f1<6)=True:=eq_true (by have:=HGE.out;omega)
       have hl2:(0≤z2)=True:=eq_true (by have:=HGE.out;omega)
       have hu2:(z2<6)=True:=eq_true (by have:=HGE.out;omega)
       have hl3:(0≤z3)=True:=eq_true (by have:=HGE.out;omega)
       have hu3:(z3<6)=True:=eq_true (by have:=HGE.out;omega)
       have hga0:w4.cell? ⟨ga,0,none⟩=some (.int .i64 e.f0):=by simp [World.cell?,HGA.out]
       have hga1:w4.cell? ⟨ga,1,none⟩=some (.int .i64 e.f1):=by simp [World.cell?,HGA.out]
       have HT':=aD (show impl_through.f k1 (aA l0 e.f0).f0 (aA l0 e.f0).f1 (aA l0 e.f1).f0 (aA l0 e.f1).f1=some (t1,t2,t3) from HT.out)
       have HU':=aD (show impl_through.f k1 (aA l0 z2).f0 (aA l0 z2).f1 (aA l0 z3).f0 (aA l0 z3).f1=some (u1,u2,u3') from HU.out)
       clear HT HU
       refine dH (S:=fun w'=>Below w4.heap.size w4 w') 28 w4.heap.size [(24,26),(25,27)] (by kernel_rfl) (by kernel_rfl) (cB (Below.refl _ _)) (fun _ _ h1 h2=>h1.trans h2) (fun _ h1=>h1.size) ?_
       iterate 28 (first
        | (refine eH (v:=.int .i64 z2) (a':=?_) rfl rfl rfl rfl (by rfl) ?_ ?_ ?_;rotate_left 1;(· rintro w' hb';go_simp;exact (aZ _).trans HW_f0.out);(· simp only [Act.put,List.setIfInBounds_toArray,List.set_cons_zero,List.set_cons_succ,aZ,bB];rfl))
        | (refine eH (v:=.int .i64 z3) (a':=?_) rfl rfl rfl rfl (by rfl) ?_ ?_ ?_;rotate_left 1;(· rintro w' hb';go_simp;exact (aZ _).trans HW_f1.out);(· simp only [Act.put,List.setIfInBounds_toArray,List.set_cons_zero,List.set_cons_succ,aZ,bB];rfl))
        | (refine eH (v:=?_) (a':=?_) rfl rfl rfl rfl (by rfl) ?_ ?_ ?_;rotate_left 2;(· rintro w' hb';go_simp;with_reducible rfl);(· simp only [Act.put,List.setIfInBounds_toArray,List.set_cons_zero,List.set_cons_succ,aZ,bB];rfl))
        | (refine eH (v:=?_) (a':=?_) rfl rfl rfl rfl (by rfl) ?_ ?_ ?_;rotate_left 2;(· rintro w' hb';have s0:=aG hb' hq0;have s1:=aG hb' hq1;have s2:=aG hb' hq2;have s3:=aG hb' hq3;have s4:=aG hb' hq4;have s5:=aG hb' hq5;have s6:=aG hb' hq6;have s7:=aG hb' hq7;have s8:=aG hb' hga0;have s9:=aG hb' hga1;go_simp;with_reducible rfl);(· simp only [Act.put,List.setIfInBounds_toArray,List.set_cons_zero,List.set_cons_succ,aZ,bB];rfl))
        | (refine fZ (a':=?_) (.agg #[.int .i64 t1,.int .i64 t2,.int .i64 t3]) rfl rfl Try.func125 rfl rfl rfl (by rfl) (by kernel_rfl) rfl #[.agg #[.int .i64 (aA l0 (e.f0)).f0,.int .i64 (aA l0 (e.f0)).f1],.agg #[.int .i64 (aA l0 (e.f1)).f0,.int .i64 (aA l0 (e.f1)).f1]] (by (try simp only [List.map_toArray,List.map_cons,List.map_nil]);rfl) ?_ ?_ ?_;rotate_left;(· rintro w' hb';with_reducible refine (cT k1 _ _ _ _ t1 t2 t3 _ HT'.out).mono ?_;rintro e w1 ⟨rfl,hb1⟩;exact ⟨rfl,hb1⟩);(· simp only [Act.put,List.setIfInBounds_toArray,List.set_cons_zero,List.set_cons_succ,aZ,bB];rfl))
        | (refine fZ (a':=?_) (.agg #[.int .i64 u1,.int .i64 u2,.int .i64 u3']) rfl rfl Try.func125 rfl rfl rfl (by rfl) (by kernel_rfl) rfl #[.agg #[.int .i64 (aA l0 (z2)).f0,.int .i64 (aA l0 (z2)).f1],.agg #[.int .i64 (aA l0 (z3)).f0,.int .i64 (aA l0 (z3)).f1]] (by (try simp only [List.map_toArray,List.map_cons,List.map_nil]);rfl) ?_ ?_ ?_;rotate_left;(· rintro w' hb';with_reducible refine (cT k1 _ _ _ _ u1 u2 u3' _ HU'.out).mono ?_;rintro e w1 ⟨rfl,hb1⟩;exact ⟨rfl,hb1⟩);(· simp only [Act.put,List.setIfInBounds_toArray,List.set_cons_zero,List.set_cons_succ,aZ,bB];rfl))
        | (refine lD #[.int .i64 0,.int .i64 0,.int .i64 0] 72 (some (26,#[.int .i64 t1,.int .i64 t2,.int .i64 t3])) rfl rfl rfl rfl (by rfl) ?_ ?_;(· rintro w' hb';first|(go_simp;done)|(go_simp;rfl)))
        | (refine lD #[.int .i64 0,.int .i64 0,.int .i64 0] 72 (some (27,#[.int .i64 u1,.int .i64 u2,.int .i64 u3'])) rfl rfl rfl rfl (by rfl) ?_ ?_;(· rintro w' hb';first|(go_simp;done)|(go_simp;rfl)))
        | (refine lE 0 rfl rfl rfl rfl rfl rfl (fun g=>by rfl) ?_ ?_;(· rintro g w' hb' hg hn;have hs0:=(bJ hg 0).trans rfl;have hs1:=(bJ hg 1).trans rfl;have hs2:=(bJ hg 2).trans rfl;have hf0:=aC hg 0;have hf1:=aC hg 1;have hf2:=aC hg 2;refine ⟨_,?_,(gB hg _ _ _).1,(gB hg _ _ _).2⟩;first|(go_simp;done)|(go_simp;rfl)))
        | (refine lE 1 rfl rfl rfl rfl rfl rfl (fun g=>by rfl) ?_ ?_;(· rintro g w' hb' hg hn;have hs0:=(bJ hg 0).trans rfl;have hs1:=(bJ hg 1).trans rfl;have hs2:=(bJ hg 2).trans rfl;have hf0:=aC hg 0;have hf1:=aC hg 1;have hf2:=aC hg 2;refine ⟨_,?_,(gB hg _ _ _).1,(gB hg _ _ _).2⟩;first|(go_simp;done)|(go_simp;rfl))))
       refine fB ?_
       intro w5 hb5 g1 _ h1 _ g2 _ h2 _
       refine dD (by kernel_rfl) ?_
       have HG1:=aD h1
       have HG2:=aD h2
       have HB5:=aD (bZ HB1.out (aM HB1.out) hb5)
       have HO5:=aD (Kd.R_below HO1.out hb5)
       have HE5:=aD (Kd.R_below HE1.out hb5)
       clear hb5 h1 h2 hq0 hq1 hq2 hq3 hq4 hq5 hq6 hq7 hga0 hga1 hl0 hl1 hl2 hl3 hu0 hu1 hu2 hu3 HB1 HO1 HE1 HGA
       have hg10:w5.cell? ⟨g1,0,none⟩=some (.int .i64 t1):=by simp [World.cell?,HG1.out,cH]
       have hg11:w5.cell? ⟨g1,1,none⟩=some (.int .i64 t2):=by simp [World.cell?,HG1.out,cH]
       have hg12:w5.cell? ⟨g1,2,none⟩=some (.int .i64 t3):=by simp [World.cell?,HG1.out,cH]
       have hg20:w5.cell? ⟨g2,0,none⟩=some (.int .i64 u1):=by simp [World.cell?,HG2.out,cH]
       have hg21:w5.cell? ⟨g2,1,none⟩=some (.int .i64 u2):=by simp [World.cell?,HG2.out,cH]
       have hg22:w5.cell? ⟨g2,2,none⟩=some (.int .i64 u3'):=by simp [World.cell?,HG2.out,cH]
       cases b with
       | true =>
        obtain ⟨rfl,rfl⟩:=Prod.mk.inj (Option.some.inj (show some (([]:List TR),false)=some (r1,r2) from by have:=HF.out;rwa [if_pos rfl] at this))
        go_wp2_with (first|(go_at_call 126;(with_reducible refine (bY k1 _ _ _ _ _ _ true _ HQ.out).mono ?_);rintro e w6 ⟨rfl,hb6⟩;have HB6:=aD (aE HB5.out hb6);clear hb6))
        go_ret2
        exact ⟨_,rfl,Kd.R_nil _ _ _ _ _,HB6.out⟩
       | false =>
        have H:=HF.out
        rw [if_neg (by decide)] at H
        obtain ⟨⟨c1,c2,c3'⟩,hc,H⟩:=iS H
        by_cases hol:out.length<1000000
        case neg=>rw [if_neg hol] at H;cases H
        rw [if_pos hol] at H
        have HCR:=aD hc
        have HOL:=aD hol
        have H':=aD H
        clear HF hc hol H
        go_wp2_with (first
         | (go_at_call 126;(with_reducible refine (bY k1 _ _ _ _ _ _ false _ HQ.out).mono ?_);rintro e w6 ⟨rfl,hb6⟩;have HB6:=aD (aE HB5.out hb6);have HO6:=aD (Kd.R_below HO5.out hb6);have HE6:=aD (Kd.R_below HE5.out hb6);have k10:=aG hb6 hg10;have k11:=aG hb6 hg11;have k12:=aG hb6 hg12;have k20:=aG hb6 hg20;have k21:=aG hb6 hg21;have k22:=aG hb6 hg22;clear hb6 HB5 HO5 HE5 hg10 hg11 hg12 hg20 hg21 hg22)
         | (go_at_call 77;(with_reducible refine (eF k1 _ _ _ _ _ _ c1 c2 c3' _ HCR.out).mono ?_);rintro e w7 ⟨rfl,hb7⟩;have HB7:=aD (aE HB6.out hb7);have HO7:=aD (Kd.R_below HO6.out hb7);have HE7:=aD (Kd.R_below HE6.out hb7);clear hb7 HB6 HO6 HE6)
         | (((with_reducible refine fL (b:=.append) (xs:=#[.tmp 71,.tmp 75]) rfl ?_);at_builtin;refine Kd.R_append gG (w0:=w) w.heap.size rfl (.tmp 71) (.tmp 75) 65 72 (.agg #[(.int .i64 0),(.int .i64 0),(.int .i64 0)]) 24 rfl Try.underlying65 rW rfl (by decide) (by omega) u4 out (⟨c1,c2,c3'⟩:TR) [.int .i64 c1,.int .i64 c2,.int .i64 c3'] (fun k_=>some k_≠(Value.slice (some ade) es.length c3).ownBlock) (fun _=>False) rfl rfl ?aP (fun _ hk=>hk.elim) ?aF HO7.out HB7.out (aM HB7.out) ?aL ?_);(case aP=>exact fM _ _ _ (⟨c1,c2,c3'⟩:TR));(case aF=>exact (fun k_ hk e_=>by have h9:=((Kd.R_bound HE7.out).1 k_ e_.symm).2.2.1;omega));(case aL=>have:=HOL.out;omega);intro v8 w8 ho hb hg hat;have HB8:=aD hb;have HO8:=aD ho;have HE8:=aD (Kd.R_grown2 HE7.out rfl hg (fun k_ hk_=>HO7.out.1 k_ hk_));clear ho hb hg hat HB7 HO7 HE7))
        go_roundg k1
        case measure=>have:=HK1.out;omega
        case rel=>exact ⟨out++[⟨c1,c2,c3'⟩],i+1,by have h9:=HEL.out;have e9:wrap64 ((i:Int)+1)=((i+1:Nat):Int):=(by unfold wrap64;omega);simp only [e9],by omega,by have h:=H'.out;exact ⟨h⟩,⟨by have:=HK1.out;omega⟩,HO8,HE8,HB8⟩
      ·have hltz:¬ (i:Int)<(es.length:Int):=by omega
       rw [if_neg hltz] at H
       obtain ⟨rfl,rfl⟩:=Prod.mk.inj (Option.some.inj H)
       have HOZ:=aD (Kd.R_mono HO.out (ok':=fun _=>True) (fun _ _=>trivial))
       clear H HE HO
       go_wp2
       go_ret2
       exact ⟨_,rfl,HOZ.out,HB.out⟩
/-! ### impl_AreOnOne: function 83 -/
def impl_AreOnOne.f (a0_0:Int) (a0_1:Int) (a0_2:Int) (a1_0:Int) (a1_1:Int) (a1_2:Int) (a2_0:Int) (a2_1:Int) (a2_2:Int):Option (Bool):=(impl_isLimited.f 100000 (([(⟨a0_0,a0_1,a0_2⟩:eV),(⟨a1_0,a1_1,a1_2⟩:eV),(⟨a2_0,a2_1,a2_2⟩:eV)]:List (eV)))).bind fun t107=>(if t107=true then (some ((wrap64 ((wrap64 ((wrap64 (a0_0*(wrap64 ((wrap64 (a1_1*a2_2))-(wrap64 (a1_2*a2_1))))))-(wrap64 (a0_1*(wrap64 ((wrap64 (a1_0*a2_2))-(wrap64 (a1_2*a2_0))))))))+(wrap64 (a0_2*(wrap64 ((wrap64 (a1_0*a2_1))-(wrap64 (a1_1*a2_0))))))))==0)) else (some false))
set_option maxHeartbeats 8000000 in
set_option maxRecDepth 100000 in
theorem fC (a0_0:Int) (a0_1:Int) (a0_2:Int) (a1_0:Int) (a1_1:Int) (a1_2:Int) (a2_0:Int) (a2_1:Int) (a2_2:Int) (r:Bool) (w:World) (h:impl_AreOnOne.f a0_0 a0_1 a0_2 a1_0 a1_1 a1_2 a2_0 a2_1 a2_2=some r) :
  Calls Try.prog 83 #[.agg #[.int .i64 a0_0,.int .i64 a0_1,.int .i64 a0_2],.agg #[.int .i64 a1_0,.int .i64 a1_1,.int .i64 a1_2],.agg #[.int .i64 a2_0,.int .i64 a2_1,.int .i64 a2_2]] w fun e w'=>e=.returned (.bool r)∧Below w.heap.size w w':=by
 have hu72:=Try.underlying72
 have HB:=aD (Below.refl w.heap.size w)
 unfold impl_AreOnOne.f at h
 have H:=h
 clear h
 obtain ⟨y104,hy104⟩:∃ y_:List (eV),y_=(([(⟨a0_0,a0_1,a0_2⟩:eV),(⟨a1_0,a1_1,a1_2⟩:eV),(⟨a2_0,a2_1,a2_2⟩:eV)]:List (eV))):=⟨_,rfl⟩
 first|(with_reducible replace H:=uU hy104 H)|(with_reducible replace H:=uV hy104 H)|rw [← hy104] at H
 have Ny104:=aD hy104
 clear hy104
 replace H:=fQ H
 obtain ⟨t107,A4,H⟩:=H
 by_cases c5:t107=true
 ·subst c5
  rw [if_pos rfl] at H
  obtain rfl:=Option.some.inj H
  go_enter Try.func83,Try.ntmps83
  go_wp2_with (first|((with_reducible refine aW (N:=3) rfl ?_);refine bS (N:=3) #[.int .i64 a0_0,.int .i64 a0_1,.int .i64 a0_2] 72 ?_;intro gb101 hg w6 hbox hb;have BK101:=aD (hbox);have GW101:=aD ((cZ HB hg));have GE101:=aD ((cZ HB hg));replace HB:=aD (aE (bM HB) hb);clear hb hbox hg)|((with_reducible refine aW (N:=4) rfl ?_);refine bS (N:=4) #[.int .i64 a1_0,.int .i64 a1_1,.int .i64 a1_2] 72 ?_;intro gb102 hg w7 hbox hb;have BK102:=aD (hbox);have GW102:=aD ((cZ HB hg));have GE102:=aD ((cZ HB hg));replace HB:=aD (aE (bM HB) hb);have NB101_102:=aD ((bW BK101 hg));have NB102_101:=aD ((bX BK101 hg));replace BK101:=aD (aU BK101 hb);clear hb hbox hg)|((with_reducible refine aW (N:=5) rfl ?_);refine bS (N:=5) #[.int .i64 a2_0,.int .i64 a2_1,.int .i64 a2_2] 72 ?_;intro gb103 hg w8 hbox hb;have BK103:=aD (hbox);have GW103:=aD ((cZ HB hg));have GE103:=aD ((cZ HB hg));replace HB:=aD (aE (bM HB) hb);have NB101_103:=aD ((bW BK101 hg));have NB103_101:=aD ((bX BK101 hg));replace BK101:=aD (aU BK101 hb);have NB102_103:=aD ((bW BK102 hg));have NB103_102:=aD ((bX BK102 hg));replace BK102:=aD (aU BK102 hb);clear hb hbox hg;have hnb9:=NB101_102.out;have hnc9:=NB102_101.out;have hnb10:=NB101_103.out;have hnc10:=NB103_101.out;have hcz11_0:=aT BK101 0;have hcz11_1:=aT BK101 1;have hcz11_2:=aT BK101 2;have hfz11_0:=aC BK101.out 0;have hfz11_1:=aC BK101.out 1;have hfz11_2:=aC BK101.out 2;have hnb12:=NB102_103.out;have hnc12:=NB103_102.out;have hcz13_0:=aT BK102 0;have hcz13_1:=aT BK102 1;have hcz13_2:=aT BK102 2;have hfz13_0:=aC BK102.out 0;have hfz13_1:=aC BK102.out 1;have hfz13_2:=aC BK102.out 2;have hcz14_0:=aT BK103 0;have hcz14_1:=aT BK103 1;have hcz14_2:=aT BK103 2;have hfz14_0:=aC BK103.out 0;have hfz14_1:=aC BK103.out 1;have hfz14_2:=aC BK103.out 2)|((with_reducible refine aW (N:=10) rfl ?_);refine Kd.R_lit gG _ 72 ?hg (N:=10) ?hd (xs:=([(⟨a0_0,a0_1,a0_2⟩:eV),(⟨a1_0,a1_1,a1_2⟩:eV),(⟨a2_0,a2_1,a2_2⟩:eV)]:List (eV))) (inner:=[.int .i64 a0_0,.int .i64 a0_1,.int .i64 a0_2,.int .i64 a1_0,.int .i64 a1_1,.int .i64 a1_2,.int .i64 a2_0,.int .i64 a2_1,.int .i64 a2_2]) (ok:=fun _=>True) (okp:=fun _=>True) ?hr ?hp (fun _ hk=>hk) trivial (Below.refl _ _) (Nat.le_refl _) (by simp) ?_;(case hd=>rfl);(case hg=>rfl);(case hr=>first|(go_simp;done)|(go_simp;rfl));(case hp=>exact (iW (show Kd.M gG _ _ _ (⟨a0_0,a0_1,a0_2⟩:eV) [.int .i64 a0_0,.int .i64 a0_1,.int .i64 a0_2] from (fM _ _ _ (⟨a0_0,a0_1,a0_2⟩:eV) )) (iW (show Kd.M gG _ _ _ (⟨a1_0,a1_1,a1_2⟩:eV) [.int .i64 a1_0,.int .i64 a1_1,.int .i64 a1_2] from (fM _ _ _ (⟨a1_0,a1_1,a1_2⟩:eV) )) (iW (show Kd.M gG _ _ _ (⟨a2_0,a2_1,a2_2⟩:eV) [.int .i64 a2_0,.int .i64 a2_1,.int .i64 a2_2] from (fM _ _ _ (⟨a2_0,a2_1,a2_2⟩:eV) )) (iE.none _ _)))));intro v105 w15 ho16 hb hg_ hnew_;clear hg_ hnew_;(first|rw [← Ny104.out] at ho16|(simp only [Int.reduceToNat] at ho16;rw [← Ny104.out] at ho16));have HO106:=aD (Kd.R_lower (Kd.R_newB (Kd.R_newB (Kd.R_newB ho16 (g:=gb101) (o:=.cells #[.int .i64 a0_0,.int .i64 a0_1,.int .i64 a0_2] 72 (0,0)) (cF BK101)) (g:=gb102) (o:=.cells #[.int .i64 a1_0,.int .i64 a1_1,.int .i64 a1_2] 72 (0,0)) (cF BK102)) (g:=gb103) (o:=.cells #[.int .i64 a2_0,.int .i64 a2_1,.int .i64 a2_2] 72 (0,0)) (cF BK103)) (aM (bM HB)));replace BK101:=aD (aU BK101 hb);replace BK102:=aD (aU BK102 hb);replace BK103:=aD (aU BK103 hb);replace HB:=aD (aE (bM HB) hb);clear hb ho16;obtain ⟨Ao17,co17,eo17⟩:=Kd.R_slice HO106.out;subst eo17)|((with_reducible refine aV (f:=136) rfl ?_);refine bK (some 11) Try.func136 #[.int .i64 100000,.slice Ao17 y104.length co17] ?_;(with_reducible refine (fR 100000 _ _ y104 true _ ?side1 ?side2 A4.out).mono ?_);(case side1=>exact nK (Kd.R_reads' HO106.out).2.2);(case side2=>exact (Kd.R_reads' HO106.out).2.1);rintro e w18 ⟨rfl,hb⟩;refine ⟨_,rfl,?_⟩;replace HO106:=aD (Kd.R_below (bN HO106) hb);replace BK101:=aD (aU BK101 hb);replace BK102:=aD (aU BK102 hb);replace BK103:=aD (aU BK103 hb);replace HB:=aD (aE (bM HB) hb);(try clear hb);(try clear hk);have hcz19_0:=aT BK101 0;have hcz19_1:=aT BK101 1;have hcz19_2:=aT BK101 2;have hfz19_0:=aC BK101.out 0;have hfz19_1:=aC BK101.out 1;have hfz19_2:=aC BK101.out 2;have hcz20_0:=aT BK102 0;have hcz20_1:=aT BK102 1;have hcz20_2:=aT BK102 2;have hfz20_0:=aC BK102.out 0;have hfz20_1:=aC BK102.out 1;have hfz20_2:=aC BK102.out 2;have hcz21_0:=aT BK103 0;have hcz21_1:=aT BK103 1;have hcz21_2:=aT BK103 2;have hfz21_0:=aC BK103.out 0;have hfz21_1:=aC BK103.out 1;have hfz21_2:=aC BK103.out 2))
  go_ret
  exact ⟨dA,bM HB⟩
 ·replace c5:=Bool.eq_false_iff.mpr c5
  subst c5
  rw [if_neg (show ¬ (false=true) by decide)] at H
  obtain rfl:=Option.some.inj H
  go_enter Try.func83,Try.ntmps83
  go_wp2_with (first|((with_reducible refine aW (N:=3) rfl ?_);refine bS (N:=3) #[.int .i64 a0_0,.int .i64 a0_1,.int .i64 a0_2] 72 ?_;intro gb101 hg w22 hbox hb;have BK101:=aD (hbox);have GW101:=aD ((cZ HB hg));have GE101:=aD ((cZ HB hg));replace HB:=aD (aE (bM HB) hb);clear hb hbox hg)|((with_reducible refine aW (N:=4) rfl ?_);refine bS (N:=4) #[.int .i64 a1_0,.int .i64 a1_1,.int .i64 a1_2] 72 ?_;intro gb102 hg w23 hbox hb;have BK102:=aD (hbox);have GW102:=aD ((cZ HB hg));have GE102:=aD ((cZ HB hg));replace HB:=aD (aE (bM HB) hb);have NB101_102:=aD ((bW BK101 hg));have NB102_101:=aD ((bX BK101 hg));replace BK101:=aD (aU BK101 hb);clear hb hbox hg)|((with_reducible refine aW (N:=5) rfl ?_);refine bS (N:=5) #[.int .i64 a2_0,.int .i64 a2_1,.int .i64 a2_2] 72 ?_;intro gb103 hg w24 hbox hb;have BK103:=aD (hbox);have GW103:=aD ((cZ HB hg));have GE103:=aD ((cZ HB hg));replace HB:=aD (aE (bM HB) hb);have NB101_103:=aD ((bW BK101 hg));have NB103_101:=aD ((bX BK101 hg));replace BK101:=aD (aU BK101 hb);have NB102_103:=aD ((bW BK102 hg));have NB103_102:=aD ((bX BK102 hg));replace BK102:=aD (aU BK102 hb);clear hb hbox hg;have hnb25:=NB101_102.out;have hnc25:=NB102_101.out;have hnb26:=NB101_103.out;have hnc26:=NB103_101.out;have hcz27_0:=aT BK101 0;have hcz27_1:=aT BK101 1;have hcz27_2:=aT BK101 2;have hfz27_0:=aC BK101.out 0;have hfz27_1:=aC BK101.out 1;have hfz27_2:=aC BK101.out 2;have hnb28:=NB102_103.out;have hnc28:=NB103_102.out;have hcz29_0:=aT BK102 0;have hcz29_1:=aT BK102 1;have hcz29_2:=aT BK102 2;have hfz29_0:=aC BK102.out 0;have hfz29_1:=aC BK102.out 1;have hfz29_2:=aC BK102.out 2;have hcz30_0:=aT BK103 0;have hcz30_1:=aT BK103 1;have hcz30_2:=aT BK103 2;have hfz30_0:=aC BK103.out 0;have hfz30_1:=aC BK103.out 1;have hfz30_2:=aC BK103.out 2)|((with_reducible refine aW (N:=10) rfl ?_);refine Kd.R_lit gG _ 72 ?hg (N:=10) ?hd (xs:=([(⟨a0_0,a0_1,a0_2⟩:eV),(⟨a1_0,a1_1,a1_2⟩:eV),(⟨a2_0,a2_1,a2_2⟩:eV)]:List (eV))) (inner:=[.int .i64 a0_0,.int .i64 a0_1,.int .i64 a0_2,.int .i64 a1_0,.int .i64 a1_1,.int .i64 a1_2,.int .i64 a2_0,.int .i64 a2_1,.int .i64 a2_2]) (ok:=fun _=>True) (okp:=fun _=>True) ?hr ?hp (fun _ hk=>hk) trivial (Below.refl _ _) (Nat.le_refl _) (by simp) ?_;(case hd=>rfl);(case hg=>rfl);(case hr=>first|(go_simp;done)|(go_simp;rfl));(case hp=>exact (iW (show Kd.M gG _ _ _ (⟨a0_0,a0_1,a0_2⟩:eV) [.int .i64 a0_0,.int .i64 a0_1,.int .i64 a0_2] from (fM _ _ _ (⟨a0_0,a0_1,a0_2⟩:eV) )) (iW (show Kd.M gG _ _ _ (⟨a1_0,a1_1,a1_2⟩:eV) [.int .i64 a1_0,.int .i64 a1_1,.int .i64 a1_2] from (fM _ _ _ (⟨a1_0,a1_1,a1_2⟩:eV) )) (iW (show Kd.M gG _ _ _ (⟨a2_0,a2_1,a2_2⟩:eV) [.int .i64 a2_0,.int .i64 a2_1,.int .i64 a2_2] from (fM _ _ _ (⟨a2_0,a2_1,a2_2⟩:eV) )) (iE.none _ _)))));intro v105 w31 ho32 hb hg_ hnew_;clear hg_ hnew_;(first|rw [← Ny104.out] at ho32|(simp only [Int.reduceToNat] at ho32;rw [← Ny104.out] at ho32));have HO106:=aD (Kd.R_lower (Kd.R_newB (Kd.R_newB (Kd.R_newB ho32 (g:=gb101) (o:=.cells #[.int .i64 a0_0,.int .i64 a0_1,.int .i64 a0_2] 72 (0,0)) (cF BK101)) (g:=gb102) (o:=.cells #[.int .i64 a1_0,.int .i64 a1_1,.int .i64 a1_2] 72 (0,0)) (cF BK102)) (g:=gb103) (o:=.cells #[.int .i64 a2_0,.int .i64 a2_1,.int .i64 a2_2] 72 (0,0)) (cF BK103)) (aM (bM HB)));replace BK101:=aD (aU BK101 hb);replace BK102:=aD (aU BK102 hb);replace BK103:=aD (aU BK103 hb);replace HB:=aD (aE (bM HB) hb);clear hb ho32;obtain ⟨Ao33,co33,eo33⟩:=Kd.R_slice HO106.out;subst eo33)|((with_reducible refine aV (f:=136) rfl ?_);refine bK (some 11) Try.func136 #[.int .i64 100000,.slice Ao33 y104.length co33] ?_;(with_reducible refine (fR 100000 _ _ y104 false _ ?side1 ?side2 A4.out).mono ?_);(case side1=>exact nK (Kd.R_reads' HO106.out).2.2);(case side2=>exact (Kd.R_reads' HO106.out).2.1);rintro e w34 ⟨rfl,hb⟩;refine ⟨_,rfl,?_⟩;replace HO106:=aD (Kd.R_below (bN HO106) hb);replace BK101:=aD (aU BK101 hb);replace BK102:=aD (aU BK102 hb);replace BK103:=aD (aU BK103 hb);replace HB:=aD (aE (bM HB) hb);(try clear hb);(try clear hk)))
  go_ret
  exact ⟨dA,bM HB⟩
/-! ### impl_ArePerspective: function 66 -/
def impl_ArePerspective.f (k:Nat) (l0:List dB):Option Bool:=(impl_DesarguesOf.f k l0).bind fun s=>if s.2=true then (if l0.length=6 then (DR k (pt l0 0) (pt l0 3)).bind fun x=>(DR k (pt l0 1) (pt l0 4)).bind fun y=>(DR k (pt l0 2) (pt l0 5)).bind fun z=>(impl_areOneLine.f k x.1 x.2.1 x.2.2 y.1 y.2.1 y.2.2).bind fun b1=>(if b1=true then some false else (impl_areOneLine.f k x.1 x.2.1 x.2.2 z.1 z.2.1 z.2.2).bind fun b2=>(if b2=true then some false else (impl_areOneLine.f k y.1 y.2.1 y.2.2 z.1 z.2.1 z.2.2).bind fun b3=>(if b3=true then some false else impl_AreOnOne.f x.1 x.2.1 x.2.2 y.1 y.2.1 y.2.2 z.1 z.2.1 z.2.2))) else none) else some false
set_option maxHeartbeats 4000000 in
set_option maxRecDepth 100000 in
theorem fE (k:Nat) (A0:Option Addr) (c0:Nat) (l0:List dB) (r:Bool) (w:World) (hr0:Kd.C gA w A0 l0.length l0) (hc0:l0.length≤c0) (h:impl_ArePerspective.f k l0=some r) :
  Calls Try.prog 66 #[.slice A0 l0.length c0] w fun e w'=>e=.returned (.bool r)∧Below w.heap.size w w':=by
 have HR:=aD hr0
 have HC:=aD hc0
 have HB:=aD (Below.refl w.heap.size w)
 unfold impl_ArePerspective.f at h
 obtain ⟨⟨q,b⟩,hd,h⟩:=iS h
 have HD:=aD hd
 clear hr0 hc0 hd
 have hup:=Try.underlying80
 have hut:=Try.underlying72
 cases b with
 | false =>
  obtain rfl:=Option.some.inj (show some false=some r from h)
  clear h
  go_enter Try.func66,Try.ntmps66
  go_wp2_with (go_at_call 75;(with_reducible refine (gX k A0 c0 l0 q false _ (Kd.C_below HR.out HB.out) HC.out HD.out).mono ?_);rintro e w1 ⟨v1_,rfl,_,hb1⟩;have m0_:=aD (aE HB.out hb1);clear HB;have HB:=m0_;clear m0_;clear hb1)
  go_ret
  exact ⟨rfl,HB.out⟩
 | true =>
  rw [if_pos rfl] at h
  by_cases h6:l0.length=6
  case neg=>rw [if_neg h6] at h;cases h
  rw [if_pos h6] at h
  obtain ⟨⟨t1,t2,t3⟩,ht,h⟩:=iS h
  obtain ⟨⟨u1,u2,u3'⟩,hu,h⟩:=iS h
  obtain ⟨⟨v1,v2,v3⟩,hv,h⟩:=iS h
  obtain ⟨b1,hb_,h⟩:=iS h
  have H6:=aD h6
  have HT:=aD (show impl_through.f k (aA l0 0).f0 (aA l0 0).f1 (aA l0 3).f0 (aA l0 3).f1=some (t1,t2,t3) from ht)
  have HU:=aD (show impl_through.f k (aA l0 1).f0 (aA l0 1).f1 (aA l0 4).f0 (aA l0 4).f1=some (u1,u2,u3') from hu)
  have HV:=aD (show impl_through.f k (aA l0 2).f0 (aA l0 2).f1 (aA l0 5).f0 (aA l0 5).f1=some (v1,v2,v3) from hv)
  have HE0:=aD (show impl_areOneLine.f k t1 t2 t3 u1 u2 u3'=some b1 from hb_)
  have HF:=aD h
  clear h6 ht hu hv hb_ h
  go_enter Try.func66,Try.ntmps66
  go_wp2_with (go_at_call 75;(with_reducible refine (gX k A0 c0 l0 q true _ (Kd.C_below HR.out HB.out) HC.out HD.out).mono ?_);rintro e w1 ⟨v1_,rfl,_,hb1⟩;have m0_:=aD (aE HB.out hb1);clear HB;have HB:=m0_;clear m0_;clear hb1)
  rw [H6.out]
  obtain ⟨ad0,eA,hp0,hp1⟩:=cC (Kd.C_below HR.out HB.out) 0 (by omega) (by have:=H6.out;omega)
  subst eA
  obtain ⟨ad1,eA,hp2,hp3⟩:=cC (Kd.C_below HR.out HB.out) 1 (by omega) (by have:=H6.out;omega)
  cases eA
  obtain ⟨ad2,eA,hp4,hp5⟩:=cC (Kd.C_below HR.out HB.out) 2 (by omega) (by have:=H6.out;omega)
  cases eA
  obtain ⟨ad3,eA,hp6,hp7⟩:=cC (Kd.C_below HR.out HB.out) 3 (by omega) (by have:=H6.out;omega)
  cases eA
  obtain ⟨ad4,eA,hp8,hp9⟩:=cC (Kd.C_below HR.out HB.out) 4 (by omega) (by have:=H6.out;omega)
  cases eA
  obtain ⟨ad5,eA,hp10,hp11⟩:=cC (Kd.C_below HR.out HB.out) 5 (by omega) (by have:=H6.out;omega)
  cases eA
  simp only [Int.reduceToNat,Nat.reduceMul,Addr.add_zero'] at hp0 hp1
  simp only [Int.reduceToNat,Nat.reduceMul,Nat.reduceEqDiff,Nat.add_assoc,Nat.reduceAdd,Go.Addr.add,↓reduceIte] at hp2 hp3 hp4 hp5 hp6 hp7 hp8 hp9 hp10 hp11
  refine dH (S:=fun w'=>Below w1.heap.size w1 w') 27 w1.heap.size [(21,24),(22,25),(23,26)] (by kernel_rfl) (by kernel_rfl) (cB (Below.refl _ _)) (fun _ _ h1 h2=>h1.trans h2) (fun _ h1=>h1.size) ?_
  iterate 27 (first
   | (refine eH (v:=?_) (a':=?_) rfl rfl rfl rfl (by rfl) ?_ ?_ ?_;rotate_left 2;(· rintro w' hb';go_simp;with_reducible rfl);(· simp only [Act.put,List.setIfInBounds_toArray,List.set_cons_zero,List.set_cons_succ,aZ,bB];rfl))
   | (refine eH (v:=?_) (a':=?_) rfl rfl rfl rfl (by rfl) ?_ ?_ ?_;rotate_left 2;(· rintro w' hb';have s0:=aG hb' hp0;have s1:=aG hb' hp1;have s2:=aG hb' hp2;have s3:=aG hb' hp3;have s4:=aG hb' hp4;have s5:=aG hb' hp5;have s6:=aG hb' hp6;have s7:=aG hb' hp7;have s8:=aG hb' hp8;have s9:=aG hb' hp9;have s10:=aG hb' hp10;have s11:=aG hb' hp11;go_simp;with_reducible rfl);(· simp only [Act.put,List.setIfInBounds_toArray,List.set_cons_zero,List.set_cons_succ,aZ,bB];rfl))
   | (refine fZ (a':=?_) (.agg #[.int .i64 t1,.int .i64 t2,.int .i64 t3]) rfl rfl Try.func125 rfl rfl rfl (by rfl) (by kernel_rfl) rfl #[.agg #[.int .i64 (aA l0 0).f0,.int .i64 (aA l0 0).f1],.agg #[.int .i64 (aA l0 3).f0,.int .i64 (aA l0 3).f1]] (by (try simp only [List.map_toArray,List.map_cons,List.map_nil]);rfl) ?_ ?_ ?_;rotate_left;(· rintro w' hb';with_reducible refine (cT k _ _ _ _ t1 t2 t3 _ HT.out).mono ?_;rintro e w1 ⟨rfl,hb1⟩;exact ⟨rfl,hb1⟩);(· simp only [Act.put,List.setIfInBounds_toArray,List.set_cons_zero,List.set_cons_succ,aZ,bB];rfl))
   | (refine fZ (a':=?_) (.agg #[.int .i64 u1,.int .i64 u2,.int .i64 u3']) rfl rfl Try.func125 rfl rfl rfl (by rfl) (by kernel_rfl) rfl #[.agg #[.int .i64 (aA l0 1).f0,.int .i64 (aA l0 1).f1],.agg #[.int .i64 (aA l0 4).f0,.int .i64 (aA l0 4).f1]] (by (try simp only [List.map_toArray,List.map_cons,List.map_nil]);rfl) ?_ ?_ ?_;rotate_left;(· rintro w' hb';with_reducible refine (cT k _ _ _ _ u1 u2 u3' _ HU.out).mono ?_;rintro e w1 ⟨rfl,hb1⟩;exact ⟨rfl,hb1⟩);(· simp only [Act.put,List.setIfInBounds_toArray,List.set_cons_zero,List.set_cons_succ,aZ,bB];rfl))
   | (refine fZ (a':=?_) (.agg #[.int .i64 v1,.int .i64 v2,.int .i64 v3]) rfl rfl Try.func125 rfl rfl rfl (by rfl) (by kernel_rfl) rfl #[.agg #[.int .i64 (aA l0 2).f0,.int .i64 (aA l0 2).f1],.agg #[.int .i64 (aA l0 5).f0,.int .i64 (aA l0 5).f1]] (by (try simp only [List.map_toArray,List.map_cons,List.map_nil]);rfl) ?_ ?_ ?_;rotate_left;(· rintro w' hb';with_reducible refine (cT k _ _ _ _ v1 v2 v3 _ HV.out).mono ?_;rintro e w1 ⟨rfl,hb1⟩;exact ⟨rfl,hb1⟩);(· simp only [Act.put,List.setIfInBounds_toArray,List.set_cons_zero,List.set_cons_succ,aZ,bB];rfl))
   | (refine lD #[.int .i64 0,.int .i64 0,.int .i64 0] 72 (some (24,#[.int .i64 t1,.int .i64 t2,.int .i64 t3])) rfl rfl rfl rfl (by rfl) ?_ ?_;(· rintro w' hb';first|(go_simp;done)|(go_simp;rfl)))
   | (refine lD #[.int .i64 0,.int .i64 0,.int .i64 0] 72 (some (25,#[.int .i64 u1,.int .i64 u2,.int .i64 u3'])) rfl rfl rfl rfl (by rfl) ?_ ?_;(· rintro w' hb';first|(go_simp;done)|(go_simp;rfl)))
   | (refine lD #[.int .i64 0,.int .i64 0,.int .i64 0] 72 (some (26,#[.int .i64 v1,.int .i64 v2,.int .i64 v3])) rfl rfl rfl rfl (by rfl) ?_ ?_;(· rintro w' hb';first|(go_simp;done)|(go_simp;rfl)))
   | (refine lE 0 rfl rfl rfl rfl rfl rfl (fun g=>by rfl) ?_ ?_;(· rintro g w' hb' hg hn;have hs0:=(bJ hg 0).trans rfl;have hs1:=(bJ hg 1).trans rfl;have hs2:=(bJ hg 2).trans rfl;have hf0:=aC hg 0;have hf1:=aC hg 1;have hf2:=aC hg 2;refine ⟨_,?_,(gB hg _ _ _).1,(gB hg _ _ _).2⟩;first|(go_simp;done)|(go_simp;rfl)))
   | (refine lE 1 rfl rfl rfl rfl rfl rfl (fun g=>by rfl) ?_ ?_;(· rintro g w' hb' hg hn;have hs0:=(bJ hg 0).trans rfl;have hs1:=(bJ hg 1).trans rfl;have hs2:=(bJ hg 2).trans rfl;have hf0:=aC hg 0;have hf1:=aC hg 1;have hf2:=aC hg 2;refine ⟨_,?_,(gB hg _ _ _).1,(gB hg _ _ _).2⟩;first|(go_simp;done)|(go_simp;rfl)))
   | (refine lE 2 rfl rfl rfl rfl rfl rfl (fun g=>by rfl) ?_ ?_;(· rintro g w' hb' hg hn;have hs0:=(bJ hg 0).trans rfl;have hs1:=(bJ hg 1).trans rfl;have hs2:=(bJ hg 2).trans rfl;have hf0:=aC hg 0;have hf1:=aC hg 1;have hf2:=aC hg 2;refine ⟨_,?_,(gB hg _ _ _).1,(gB hg _ _ _).2⟩;first|(go_simp;done)|(go_simp;rfl))))
  refine fB ?_
  intro w5 hb5 g1 _ h1 _ g2 _ h2 _ g3 _ h3 _
  refine dD (by kernel_rfl) ?_
  have hg10:w5.cell? ⟨g1,0,none⟩=some (.int .i64 t1):=by simp [World.cell?,h1,cH]
  have hg11:w5.cell? ⟨g1,1,none⟩=some (.int .i64 t2):=by simp [World.cell?,h1,cH]
  have hg12:w5.cell? ⟨g1,2,none⟩=some (.int .i64 t3):=by simp [World.cell?,h1,cH]
  have hg20:w5.cell? ⟨g2,0,none⟩=some (.int .i64 u1):=by simp [World.cell?,h2,cH]
  have hg21:w5.cell? ⟨g2,1,none⟩=some (.int .i64 u2):=by simp [World.cell?,h2,cH]
  have hg22:w5.cell? ⟨g2,2,none⟩=some (.int .i64 u3'):=by simp [World.cell?,h2,cH]
  have hg30:w5.cell? ⟨g3,0,none⟩=some (.int .i64 v1):=by simp [World.cell?,h3,cH]
  have hg31:w5.cell? ⟨g3,1,none⟩=some (.int .i64 v2):=by simp [World.cell?,h3,cH]
  have hg32:w5.cell? ⟨g3,2,none⟩=some (.int .i64 v3):=by simp [World.cell?,h3,cH]
  have m0_:=aD (bZ HB.out (aM HB.out) hb5)
  clear HB hb5 h1 h2 h3 HT HU HV hp0 hp1 hp2 hp3 hp4 hp5 hp6 hp7 hp8 hp9 hp10 hp11
  have HB:=m0_
  clear m0_
  cases b1 with
  | true =>
   obtain rfl:=Option.some.inj (show some false=some r from by have:=HF.out;rwa [if_pos rfl] at this)
   clear HF
   go_wp2_with (first
    | (go_at_call 126;(with_reducible refine (bY k _ _ _ _ _ _ true _ HE0.out).mono ?_);rintro e w9 ⟨rfl,hb9⟩;have m0_:=aD (aE HB.out hb9);clear HB;have HB:=m0_;clear m0_;have m0:=aG hb9 hg10;clear hg10;have hg10:=m0;clear m0;have m1:=aG hb9 hg11;clear hg11;have hg11:=m1;clear m1;have m2:=aG hb9 hg12;clear hg12;have hg12:=m2;clear m2;have m3:=aG hb9 hg20;clear hg20;have hg20:=m3;clear m3;have m4:=aG hb9 hg21;clear hg21;have hg21:=m4;clear m4;have m5:=aG hb9 hg22;clear hg22;have hg22:=m5;clear m5;have m6:=aG hb9 hg30;clear hg30;have hg30:=m6;clear m6;have m7:=aG hb9 hg31;clear hg31;have hg31:=m7;clear m7;have m8:=aG hb9 hg32;clear hg32;have hg32:=m8;clear m8;clear hb9))
   go_ret
   exact ⟨rfl,HB.out⟩
  | false =>
   have h:=HF.out
   rw [if_neg (by decide)] at h
   obtain ⟨b2,hb_,h⟩:=iS h
   have HE1:=aD (show impl_areOneLine.f k t1 t2 t3 v1 v2 v3=some b2 from hb_)
   clear HF hb_
   have HF:=aD h
   clear h
   cases b2 with
   | true =>
    obtain rfl:=Option.some.inj (show some false=some r from by have:=HF.out;rwa [if_pos rfl] at this)
    clear HF
    go_wp2_with (first
     | (go_at_call 126;(with_reducible refine (bY k _ _ _ _ _ _ false _ HE0.out).mono ?_);rintro e w9 ⟨rfl,hb9⟩;have m0_:=aD (aE HB.out hb9);clear HB;have HB:=m0_;clear m0_;have m0:=aG hb9 hg10;clear hg10;have hg10:=m0;clear m0;have m1:=aG hb9 hg11;clear hg11;have hg11:=m1;clear m1;have m2:=aG hb9 hg12;clear hg12;have hg12:=m2;clear m2;have m3:=aG hb9 hg20;clear hg20;have hg20:=m3;clear m3;have m4:=aG hb9 hg21;clear hg21;have hg21:=m4;clear m4;have m5:=aG hb9 hg22;clear hg22;have hg22:=m5;clear m5;have m6:=aG hb9 hg30;clear hg30;have hg30:=m6;clear m6;have m7:=aG hb9 hg31;clear hg31;have hg31:=m7;clear m7;have m8:=aG hb9 hg32;clear hg32;have hg32:=m8;clear m8;clear hb9)
     | (go_at_call 126;(with_reducible refine (bY k _ _ _ _ _ _ true _ HE1.out).mono ?_);rintro e w9 ⟨rfl,hb9⟩;have m0_:=aD (aE HB.out hb9);clear HB;have HB:=m0_;clear m0_;have m0:=aG hb9 hg10;clear hg10;have hg10:=m0;clear m0;have m1:=aG hb9 hg11;clear hg11;have hg11:=m1;clear m1;have m2:=aG hb9 hg12;clear hg12;have hg12:=m2;clear m2;have m3:=aG hb9 hg20;clear hg20;have hg20:=m3;clear m3;have m4:=aG hb9 hg21;clear hg21;have hg21:=m4;clear m4;have m5:=aG hb9 hg22;clear hg22;have hg22:=m5;clear m5;have m6:=aG hb9 hg30;clear hg30;have hg30:=m6;clear m6;have m7:=aG hb9 hg31;clear hg31;have hg31:=m7;clear m7;have m8:=aG hb9 hg32;clear hg32;have hg32:=m8;clear m8;clear hb9))
    go_ret
    exact ⟨rfl,HB.out⟩
   | false =>
    have h:=HF.out
    rw [if_neg (by decide)] at h
    obtain ⟨b3,hb_,h⟩:=iS h
    have HE2:=aD (show impl_areOneLine.f k u1 u2 u3' v1 v2 v3=some b3 from hb_)
    clear HF hb_
    have HF:=aD h
    clear h
    cases b3 with
    | true =>
     obtain rfl:=Option.some.inj (show some false=some r from by have:=HF.out;rwa [if_pos rfl] at this)
     clear HF
     go_wp2_with (first
      | (go_at_call 126;(with_reducible refine (bY k _ _ _ _ _ _ false _ HE0.out).mono ?_);rintro e w9 ⟨rfl,hb9⟩;have m0_:=aD (aE HB.out hb9);clear HB;have HB:=m0_;clear m0_;have m0:=aG hb9 hg10;clear hg10;have hg10:=m0;clear m0;have m1:=aG hb9 hg11;clear hg11;have hg11:=m1;clear m1;have m2:=aG hb9 hg12;clear hg12;have hg12:=m2;clear m2;have m3:=aG hb9 hg20;clear hg20;have hg20:=m3;clear m3;have m4:=aG hb9 hg21;clear hg21;have hg21:=m4;clear m4;have m5:=aG hb9 hg22;clear hg22;have hg22:=m5;clear m5;have m6:=aG hb9 hg30;clear hg30;have hg30:=m6;clear m6;have m7:=aG hb9 hg31;clear hg31;have hg31:=m7;clear m7;have m8:=aG hb9 hg32;clear hg32;have hg32:=m8;clear m8;clear hb9)
      | (go_at_call 126;(with_reducible refine (bY k _ _ _ _ _ _ false _ HE1.out).mono ?_);rintro e w9 ⟨rfl,hb9⟩;have m0_:=aD (aE HB.out hb9);clear HB;have HB:=m0_;clear m0_;have m0:=aG hb9 hg10;clear hg10;have hg10:=m0;clear m0;have m1:=aG hb9 hg11;clear hg11;have hg11:=m1;clear m1;have m2:=aG hb9 hg12;clear hg12;have hg12:=m2;clear m2;have m3:=aG hb9 hg20;clear hg20;have hg20:=m3;clear m3;have m4:=aG hb9 hg21;clear hg21;have hg21:=m4;clear m4;have m5:=aG hb9 hg22;clear hg22;have hg22:=m5;clear m5;have m6:=aG hb9 hg30;clear hg30;have hg30:=m6;clear m6;have m7:=aG hb9 hg31;clear hg31;have hg31:=m7;clear m7;have m8:=aG hb9 hg32;clear hg32;have hg32:=m8;clear m8;clear hb9)
      | (go_at_call 126;(with_reducible refine (bY k _ _ _ _ _ _ true _ HE2.out).mono ?_);rintro e w9 ⟨rfl,hb9⟩;have m0_:=aD (aE HB.out hb9);clear HB;have HB:=m0_;clear m0_;have m0:=aG hb9 hg10;clear hg10;have hg10:=m0;clear m0;have m1:=aG hb9 hg11;clear hg11;have hg11:=m1;clear m1;have m2:=aG hb9 hg12;clear hg12;have hg12:=m2;clear m2;have m3:=aG hb9 hg20;clear hg20;have hg20:=m3;clear m3;have m4:=aG hb9 hg21;clear hg21;have hg21:=m4;clear m4;have m5:=aG hb9 hg22;clear hg22;have hg22:=m5;clear m5;have m6:=aG hb9 hg30;clear hg30;have hg30:=m6;clear m6;have m7:=aG hb9 hg31;clear hg31;have hg31:=m7;clear m7;have m8:=aG hb9 hg32;clear hg32;have hg32:=m8;clear m8;clear hb9))
     go_ret
     exact ⟨rfl,HB.out⟩
    | false =>
     have h:=HF.out
     rw [if_neg (by decide)] at h
     have HON:=aD (show impl_AreOnOne.f t1 t2 t3 u1 u2 u3' v1 v2 v3=some r from h)
     clear HF h
     go_wp2_with (first
      | (go_at_call 126;(with_reducible refine (bY k _ _ _ _ _ _ false _ HE0.out).mono ?_);rintro e w9 ⟨rfl,hb9⟩;have m0_:=aD (aE HB.out hb9);clear HB;have HB:=m0_;clear m0_;have m0:=aG hb9 hg10;clear hg10;have hg10:=m0;clear m0;have m1:=aG hb9 hg11;clear hg11;have hg11:=m1;clear m1;have m2:=aG hb9 hg12;clear hg12;have hg12:=m2;clear m2;have m3:=aG hb9 hg20;clear hg20;have hg20:=m3;clear m3;have m4:=aG hb9 hg21;clear hg21;have hg21:=m4;clear m4;have m5:=aG hb9 hg22;clear hg22;have hg22:=m5;clear m5;have m6:=aG hb9 hg30;clear hg30;have hg30:=m6;clear m6;have m7:=aG hb9 hg31;clear hg31;have hg31:=m7;clear m7;have m8:=aG hb9 hg32;clear hg32;have hg32:=m8;clear m8;clear hb9)
      | (go_at_call 126;(with_reducible refine (bY k _ _ _ _ _ _ false _ HE1.out).mono ?_);rintro e w9 ⟨rfl,hb9⟩;have m0_:=aD (aE HB.out hb9);clear HB;have HB:=m0_;clear m0_;have m0:=aG hb9 hg10;clear hg10;have hg10:=m0;clear m0;have m1:=aG hb9 hg11;clear hg11;have hg11:=m1;clear m1;have m2:=aG hb9 hg12;clear hg12;have hg12:=m2;clear m2;have m3:=aG hb9 hg20;clear hg20;have hg20:=m3;clear m3;have m4:=aG hb9 hg21;clear hg21;have hg21:=m4;clear m4;have m5:=aG hb9 hg22;clear hg22;have hg22:=m5;clear m5;have m6:=aG hb9 hg30;clear hg30;have hg30:=m6;clear m6;have m7:=aG hb9 hg31;clear hg31;have hg31:=m7;clear m7;have m8:=aG hb9 hg32;clear hg32;have hg32:=m8;clear m8;clear hb9)
      | (go_at_call 126;(with_reducible refine (bY k _ _ _ _ _ _ false _ HE2.out).mono ?_);rintro e w9 ⟨rfl,hb9⟩;have m0_:=aD (aE HB.out hb9);clear HB;have HB:=m0_;clear m0_;have m0:=aG hb9 hg10;clear hg10;have hg10:=m0;clear m0;have m1:=aG hb9 hg11;clear hg11;have hg11:=m1;clear m1;have m2:=aG hb9 hg12;clear hg12;have hg12:=m2;clear m2;have m3:=aG hb9 hg20;clear hg20;have hg20:=m3;clear m3;have m4:=aG hb9 hg21;clear hg21;have hg21:=m4;clear m4;have m5:=aG hb9 hg22;clear hg22;have hg22:=m5;clear m5;have m6:=aG hb9 hg30;clear hg30;have hg30:=m6;clear m6;have m7:=aG hb9 hg31;clear hg31;have hg31:=m7;clear m7;have m8:=aG hb9 hg32;clear hg32;have hg32:=m8;clear m8;clear hb9)
      | (go_at_call 83;(with_reducible refine (fC _ _ _ _ _ _ _ _ _ r _ HON.out).mono ?_);rintro e w9 ⟨rfl,hb9⟩;have m0_:=aD (aE HB.out hb9);clear HB;have HB:=m0_;clear m0_;clear hb9))
     go_ret
     exact ⟨rfl,HB.out⟩
/-! ### spec_PappusOf: function 68 -/
abbrev rZ:=eV
def vF (q:List rZ) (i:Int):rZ:=aI q i
def rH (k:Nat) (a b:rZ):Option (Int×Int×Int):=spec_CrossOf.f k a.f0 a.f1 a.f2 b.f0 b.f1 b.f2
theorem DF (W:World) (o1 o2 o3 o4:Obj):((((W.alloc o1).alloc o2).alloc o3).alloc o4).heap[W.heap.size]? = some o1∧((((W.alloc o1).alloc o2).alloc o3).alloc o4).heap[W.heap.size+1]? = some o2∧((((W.alloc o1).alloc o2).alloc o3).alloc o4).heap[W.heap.size+2]? = some o3∧((((W.alloc o1).alloc o2).alloc o3).alloc o4).heap[W.heap.size+3]? = some o4∧((((W.alloc o1).alloc o2).alloc o3).alloc o4).heap.size=W.heap.size+4:=by
 have e:((((W.alloc o1).alloc o2).alloc o3).alloc o4).heap=(((W.heap.push o1).push o2).push o3).push o4:=rfl
 rw [e]
 refine ⟨?_,?_,?_,?_,by simp⟩ <;> simp only [Array.getElem?_push,Array.size_push] <;> (repeat' (first|rfl|rw [if_pos (by omega)]|rw [if_neg (by omega)]))
def pp (i j:Nat):Nat:=if i=0 then (if j=0 then 0 else if j=1 then 4 else if j=2 then 1 else 3) else if i=1 then (if j=0 then 0 else if j=1 then 5 else if j=2 then 2 else 3) else (if j=0 then 1 else if j=1 then 5 else if j=2 then 2 else 4)
theorem sQ (i j:Nat):pp i j<6:=by unfold pp;repeat' (first|split|decide)
def DS (q:List rZ) (i j k:Int):Option Bool:=spec_AreOnOne.f (vF q i).f0 (vF q i).f1 (vF q i).f2 (vF q j).f0 (vF q j).f1 (vF q j).f2 (vF q k).f0 (vF q k).f1 (vF q k).f2
def eS:Nat→List rZ→List rZ→Nat→Option (List rZ×Bool)
 | 0,_,_,_=>none
 | k+1,q,out,i=>if i<3 then (rH k (vF q (pp i 0)) (vF q (pp i 1))).bind fun t=>(rH k (vF q (pp i 2)) (vF q (pp i 3))).bind fun u=>(spec_CrossOf.f k t.1 t.2.1 t.2.2 u.1 u.2.1 u.2.2).bind fun c=>(if out.length<1000000 then eS k q (out++[⟨c.1,c.2.1,c.2.2⟩]) (i+1) else none) else some (out,true)
def eT:Nat→List rZ→(Int×Int×Int)→(Int×Int×Int)→Nat→Option (List rZ×Bool)
 | 0,_,_,_,_=>none
 | k+1,q,l,m,i=>if i<3 then (DS q 3 4 (i:Int)).bind fun a=>(if a=true then some ([],false) else (DS q 0 1 (3+(i:Int))).bind fun b=>(if b=true then some ([],false) else eT k q l m (i+1))) else (spec_l26Equal.f k l.1 l.2.1 l.2.2 m.1 m.2.1 m.2.2).bind fun z=>(if z=true then some ([],false) else eS k q [] 0)
def spec_PappusOf.f (k:Nat) (l0:List dB):Option (List rZ×Bool):=(spec_l26Six.f k l0).bind fun s=>if s.2=true then (if s.1.length=6 then (DS s.1 0 1 2).bind fun x=>(if x=true then (DS s.1 3 4 5).bind fun y=>(if y=true then (rH k (vF s.1 0) (vF s.1 1)).bind fun l=>(rH k (vF s.1 3) (vF s.1 4)).bind fun m=>eT k s.1 l m 0 else some ([],false)) else some ([],false)) else none) else some ([],false)
def rE (W:World) (g:Nat):Prop:=(∀ i:Nat,i<3→(∀ j:Nat,j<4→W.cell? ⟨g+i,j,none⟩=some (.int .i64 (pp i j)))∧W.cell? ⟨g+3,i,none⟩=some (.slice (some ⟨g+i,0,none⟩) 4 4))∧g+4≤W.heap.size
theorem rE.to {W W':World} {g:Nat} (h:rE W g) (hs:W.heap.size≤W'.heap.size) (hb:∀ k,g≤k→k<g+4→W'.heap[k]? = W.heap[k]?):rE W' g:=by
 refine ⟨fun i hi=>?_,by have:=h.2;omega⟩
 obtain ⟨h1,h2⟩:=h.1 i hi
 have e:∀ (b j:Nat),g≤b→b<g+4→W'.cell? ⟨b,j,none⟩=W.cell? ⟨b,j,none⟩:=by
  intro b j hb1 hb2
  simp only [World.cell?,hb b hb1 hb2]
 exact ⟨fun j hj=>(e _ _ (by omega) (by omega)).trans (h1 j hj),(e _ _ (by omega) (by omega)).trans h2⟩
theorem xE (W:World):rE ((((W.alloc (.cells #[.int .i64 0,.int .i64 4,.int .i64 1,.int .i64 3] 3)).alloc (.cells #[.int .i64 0,.int .i64 5,.int .i64 2,.int .i64 3] 3)).alloc (.cells #[.int .i64 1,.int .i64 5,.int .i64 2,.int .i64 4] 3)).alloc (.cells #[.slice (some ⟨W.heap.size,0,none⟩) 4 4,.slice (some ⟨W.heap.size+1,0,none⟩) 4 4,.slice (some ⟨W.heap.size+1+1,0,none⟩) 4 4] 29)) W.heap.size:=by
 obtain ⟨h1,h2,h3,h4,h5⟩:=DF W (.cells #[.int .i64 0,.int .i64 4,.int .i64 1,.int .i64 3] 3) (.cells #[.int .i64 0,.int .i64 5,.int .i64 2,.int .i64 3] 3) (.cells #[.int .i64 1,.int .i64 5,.int .i64 2,.int .i64 4] 3) (.cells #[.slice (some ⟨W.heap.size,0,none⟩) 4 4,.slice (some ⟨W.heap.size+1,0,none⟩) 4 4,.slice (some ⟨W.heap.size+1+1,0,none⟩) 4 4] 29)
 generalize ((((W.alloc (.cells #[.int .i64 0,.int .i64 4,.int .i64 1,.int .i64 3] 3)).alloc (.cells #[.int .i64 0,.int .i64 5,.int .i64 2,.int .i64 3] 3)).alloc (.cells #[.int .i64 1,.int .i64 5,.int .i64 2,.int .i64 4] 3)).alloc (.cells #[.slice (some ⟨W.heap.size,0,none⟩) 4 4,.slice (some ⟨W.heap.size+1,0,none⟩) 4 4,.slice (some ⟨W.heap.size+1+1,0,none⟩) 4 4] 29))=V at h1 h2 h3 h4 h5 ⊢
 refine ⟨fun i hi=>?_,by omega⟩
 have:i=0∨i=1∨i=2:=by omega
 rcases this with rfl|rfl|rfl
 ·refine ⟨fun j hj=>?_,by simp [World.cell?,h4]⟩
  have:j=0∨j=1∨j=2∨j=3:=by omega
  rcases this with rfl|rfl|rfl|rfl <;> simp [World.cell?,h1,pp]
 ·refine ⟨fun j hj=>?_,by simp [World.cell?,h4]⟩
  have:j=0∨j=1∨j=2∨j=3:=by omega
  rcases this with rfl|rfl|rfl|rfl <;> simp [World.cell?,h2,pp]
 ·refine ⟨fun j hj=>?_,by simp [World.cell?,h4]⟩
  have:j=0∨j=1∨j=2∨j=3:=by omega
  rcases this with rfl|rfl|rfl|rfl <;> simp [World.cell?,h3,pp]
set_option maxHeartbeats 8000000 in
set_option maxRecDepth 100000 in
theorem pP (k : Nat) (A0 : Option Addr) (c0 : Nat) (l0 : List dB) (r1 : List rZ) (r2 : Bool) (w : World) (hr0 : Kd.C gA w A0 l0.length l0) (hc0 : l0.length ≤ c0) (h : spec_PappusOf.f k l0 = some (r1, r2)) :
  Calls Try.prog 68 #[.slice A0 l0.length c0] w fun e w'=>∃ v0_:Value,e=.returned (.tuple #[v0_,.bool r2])∧Kd.R gG 72 w' w.heap.size (fun _=>True) v0_ r1∧Below w.heap.size w w':=by
 have HR:=aD hr0
 have HC:=aD hc0
 have HB:=aD (Below.refl w.heap.size w)
 unfold spec_PappusOf.f at h
 obtain ⟨⟨q,b⟩,hs,h⟩:=iS h
 have HA1:=aD hs
 clear hr0 hc0 hs
 have hup:=Try.underlying80
 have hut:=Try.underlying72
 cases b with
 | false =>
  obtain ⟨rfl,rfl⟩:=Prod.mk.inj (Option.some.inj (show some (([]:List rZ),false)=some (r1,r2) from h))
  clear h
  go_enter Try.func68,Try.ntmps68
  go_wp2_with (first|(go_at_call 122;(with_reducible refine (gL k A0 c0 l0 q false _ (Kd.C_below HR.out HB.out) HC.out HA1.out).mono ?_);rintro e w1 ⟨v1_,rfl,ho1,hb1⟩;obtain ⟨A1,c1,rfl⟩:=Kd.R_slice ho1;have HQ:=aD ho1;have m0_:=aD (aE HB.out hb1);clear HB;have HB:=m0_;clear m0_;clear ho1 hb1))
  generalize hw1:w1=W1 at HB HQ ⊢
  clear hw1
  refine dH (S:=fun w'=>Below W1.heap.size W1 w') 28 W1.heap.size [] (by kernel_rfl) (by kernel_rfl) (cB (Below.refl _ _)) (fun _ _ h1 h2=>h1.trans h2) (fun _ h1=>h1.size) ?_
  iterate 28 (first
   | (refine eH (v:=?_) (a':=?_) rfl rfl rfl rfl (by rfl) ?_ ?_ ?_;rotate_left 2;(· rintro w' hb';go_simp;with_reducible rfl);(· simp only [Act.put,List.setIfInBounds_toArray,List.set_cons_zero,List.set_cons_succ,aZ,bB];rfl))
   | (refine qG (a':=?_) rfl rfl rfl rfl (by rfl) ?_ ?_;rotate_left;(· simp only [Act.put,List.setIfInBounds_toArray,List.set_cons_zero,List.set_cons_succ,aZ,bB];rfl)))
  refine fB ?_
  intro w2 hb2
  refine dD (by kernel_rfl) ?_
  have m0_:=aD (bZ HB.out (aM HB.out) hb2)
  clear HB hb2
  have HB:=m0_
  clear m0_
  go_wp2_with (first
   | ((with_reducible refine aW (N:=47) rfl ?_);refine Kd.R_lit gG _ 72 ?hg (N:=47) ?hd (xs:=([]:List rZ)) (inner:=[]) (ok:=fun _=>True) (okp:=fun _=>True) ?hr ?hp (fun _ hk=>hk) trivial (Below.refl _ _) (Nat.le_refl _) (by simp) ?_;(case hd=>rfl);(case hg=>rfl);(case hr=>first|(go_simp;done)|(go_simp;rfl));(case hp=>exact (iE.none _ _));intro v9 w9 ho9 hb9 hg_ hnew_;have HO9:=aD (Kd.R_lower ho9 (aM HB.out));have HB9:=aD (aE HB.out hb9);clear hg_ hnew_ ho9 hb9))
  go_ret2
  exact ⟨_,rfl,HO9.out,HB9.out⟩
 | true =>
  rw [if_pos rfl] at h
  by_cases h6:q.length=6
  case neg=>rw [if_neg h6] at h;cases h
  rw [if_pos h6] at h
  obtain ⟨x,hx,h⟩:=iS h
  have H6:=aD h6
  have HAX:=aD (show spec_AreOnOne.f (aI q 0).f0 (aI q 0).f1 (aI q 0).f2 (aI q 1).f0 (aI q 1).f1 (aI q 1).f2 (aI q 2).f0 (aI q 2).f1 (aI q 2).f2=some x from hx)
  have HH:=aD h
  clear h6 hx h
  go_enter Try.func68,Try.ntmps68
  go_wp2_with (first|(go_at_call 122;(with_reducible refine (gL k A0 c0 l0 q true _ (Kd.C_below HR.out HB.out) HC.out HA1.out).mono ?_);rintro e w1 ⟨v1_,rfl,ho1,hb1⟩;obtain ⟨A1,c1,rfl⟩:=Kd.R_slice ho1;have HQ:=aD ho1;have m0_:=aD (aE HB.out hb1);clear HB;have HB:=m0_;clear m0_;clear ho1 hb1))
  generalize hw1:w1=W1 at HB HQ ⊢
  clear hw1
  rw [H6.out]
  obtain ⟨ad0,eA,hp0,hp1,hp2⟩:=dJ (Kd.R_reads' HQ.out).2.2 0 (by omega) (by have:=H6.out;omega)
  subst eA
  obtain ⟨ad1,eA,hp3,hp4,hp5⟩:=dJ (Kd.R_reads' HQ.out).2.2 1 (by omega) (by have:=H6.out;omega)
  cases eA
  obtain ⟨ad2,eA,hp6,hp7,hp8⟩:=dJ (Kd.R_reads' HQ.out).2.2 2 (by omega) (by have:=H6.out;omega)
  cases eA
  obtain ⟨ad3,eA,hp9,hp10,hp11⟩:=dJ (Kd.R_reads' HQ.out).2.2 3 (by omega) (by have:=H6.out;omega)
  cases eA
  obtain ⟨ad4,eA,hp12,hp13,hp14⟩:=dJ (Kd.R_reads' HQ.out).2.2 4 (by omega) (by have:=H6.out;omega)
  cases eA
  obtain ⟨ad5,eA,hp15,hp16,hp17⟩:=dJ (Kd.R_reads' HQ.out).2.2 5 (by omega) (by have:=H6.out;omega)
  cases eA
  simp only [Int.reduceToNat,Nat.reduceMul,Addr.add_zero'] at hp0 hp1 hp2
  simp only [Int.reduceToNat,Nat.reduceMul,Nat.reduceEqDiff,Nat.add_assoc,Nat.reduceAdd,Go.Addr.add,↓reduceIte] at hp3 hp4 hp5 hp6 hp7 hp8 hp9 hp10 hp11 hp12 hp13 hp14 hp15 hp16 hp17
  cases x with
  | false =>
   have h:=HH.out
   rw [if_neg (by decide)] at h
   obtain ⟨rfl,rfl⟩:=Prod.mk.inj (Option.some.inj (show some (([]:List rZ),false)=some (r1,r2) from h))
   clear h HH
   refine dH (S:=fun w'=>Below W1.heap.size W1 w') 28 W1.heap.size [] (by kernel_rfl) (by kernel_rfl) (cB (Below.refl _ _)) (fun _ _ h1 h2=>h1.trans h2) (fun _ h1=>h1.size) ?_
   iterate 28 (first
    | (refine eH (v:=?_) (a':=?_) rfl rfl rfl rfl (by rfl) ?_ ?_ ?_;rotate_left 2;(· rintro w' hb';go_simp;with_reducible rfl);(· simp only [Act.put,List.setIfInBounds_toArray,List.set_cons_zero,List.set_cons_succ,aZ,bB];rfl))
    | (refine eH (v:=?_) (a':=?_) rfl rfl rfl rfl (by rfl) ?_ ?_ ?_;rotate_left 2;(· rintro w' hb';have s0:=aG hb' hp0;have s1:=aG hb' hp1;have s2:=aG hb' hp2;have s3:=aG hb' hp3;have s4:=aG hb' hp4;have s5:=aG hb' hp5;have s6:=aG hb' hp6;have s7:=aG hb' hp7;have s8:=aG hb' hp8;have s9:=aG hb' hp9;have s10:=aG hb' hp10;have s11:=aG hb' hp11;have s12:=aG hb' hp12;have s13:=aG hb' hp13;have s14:=aG hb' hp14;have s15:=aG hb' hp15;have s16:=aG hb' hp16;have s17:=aG hb' hp17;go_simp;with_reducible rfl);(· simp only [Act.put,List.setIfInBounds_toArray,List.set_cons_zero,List.set_cons_succ,aZ,bB];rfl))
    | (refine fZ (a':=?_) (.bool false) rfl rfl Try.func84 rfl rfl rfl (by rfl) (by kernel_rfl) rfl #[.agg #[.int .i64 (aI q 0).f0,.int .i64 (aI q 0).f1,.int .i64 (aI q 0).f2],.agg #[.int .i64 (aI q 1).f0,.int .i64 (aI q 1).f1,.int .i64 (aI q 1).f2],.agg #[.int .i64 (aI q 2).f0,.int .i64 (aI q 2).f1,.int .i64 (aI q 2).f2]] (by (try simp only [List.map_toArray,List.map_cons,List.map_nil]);rfl) ?_ ?_ ?_;rotate_left;(· rintro w' hb';with_reducible refine (bT _ _ _ _ _ _ _ _ _ _ _ HAX.out).mono ?_;rintro e w1 ⟨rfl,hb1⟩;exact ⟨rfl,hb1⟩);(· simp only [Act.put,List.setIfInBounds_toArray,List.set_cons_zero,List.set_cons_succ,aZ,bB];rfl))
    | (refine qG (a':=?_) rfl rfl rfl rfl (by rfl) ?_ ?_;rotate_left;(· simp only [Act.put,List.setIfInBounds_toArray,List.set_cons_zero,List.set_cons_succ,aZ,bB];rfl)))
   refine fB ?_
   intro w2 hb2
   refine dD (by kernel_rfl) ?_
   have m0_:=aD (bZ HB.out (aM HB.out) hb2)
   clear HB hb2
   have HB:=m0_
   clear m0_
   go_wp2_with (first
    | ((with_reducible refine aW (N:=47) rfl ?_);refine Kd.R_lit gG _ 72 ?hg (N:=47) ?hd (xs:=([]:List rZ)) (inner:=[]) (ok:=fun _=>True) (okp:=fun _=>True) ?hr ?hp (fun _ hk=>hk) trivial (Below.refl _ _) (Nat.le_refl _) (by simp) ?_;(case hd=>rfl);(case hg=>rfl);(case hr=>first|(go_simp;done)|(go_simp;rfl));(case hp=>exact (iE.none _ _));intro v9 w9 ho9 hb9 hg_ hnew_;have HO9:=aD (Kd.R_lower ho9 (aM HB.out));have HB9:=aD (aE HB.out hb9);clear hg_ hnew_ ho9 hb9))
   go_ret2
   exact ⟨_,rfl,HO9.out,HB9.out⟩
  | true =>
   have h:=HH.out
   rw [if_pos rfl] at h
   obtain ⟨y,hy,h⟩:=iS h
   have HAY:=aD (show spec_AreOnOne.f (aI q 3).f0 (aI q 3).f1 (aI q 3).f2 (aI q 4).f0 (aI q 4).f1 (aI q 4).f2 (aI q 5).f0 (aI q 5).f1 (aI q 5).f2=some y from hy)
   clear hy HH
   cases y with
   | false =>
    rw [if_neg (by decide)] at h
    obtain ⟨rfl,rfl⟩:=Prod.mk.inj (Option.some.inj (show some (([]:List rZ),false)=some (r1,r2) from h))
    clear h
    refine dH (S:=fun w'=>Below W1.heap.size W1 w') 28 W1.heap.size [] (by kernel_rfl) (by kernel_rfl) (cB (Below.refl _ _)) (fun _ _ h1 h2=>h1.trans h2) (fun _ h1=>h1.size) ?_
    iterate 28 (first
     | (refine eH (v:=?_) (a':=?_) rfl rfl rfl rfl (by rfl) ?_ ?_ ?_;rotate_left 2;(· rintro w' hb';go_simp;with_reducible rfl);(· simp only [Act.put,List.setIfInBounds_toArray,List.set_cons_zero,List.set_cons_succ,aZ,bB];rfl))
     | (refine eH (v:=?_) (a':=?_) rfl rfl rfl rfl (by rfl) ?_ ?_ ?_;rotate_left 2;(· rintro w' hb';have s0:=aG hb' hp0;have s1:=aG hb' hp1;have s2:=aG hb' hp2;have s3:=aG hb' hp3;have s4:=aG hb' hp4;have s5:=aG hb' hp5;have s6:=aG hb' hp6;have s7:=aG hb' hp7;have s8:=aG hb' hp8;have s9:=aG hb' hp9;have s10:=aG hb' hp10;have s11:=aG hb' hp11;have s12:=aG hb' hp12;have s13:=aG hb' hp13;have s14:=aG hb' hp14;have s15:=aG hb' hp15;have s16:=aG hb' hp16;have s17:=aG hb' hp17;go_simp;with_reducible rfl);(· simp only [Act.put,List.setIfInBounds_toArray,List.set_cons_zero,List.set_cons_succ,aZ,bB];rfl))
     | (refine fZ (a':=?_) (.bool true) rfl rfl Try.func84 rfl rfl rfl (by rfl) (by kernel_rfl) rfl #[.agg #[.int .i64 (aI q 0).f0,.int .i64 (aI q 0).f1,.int .i64 (aI q 0).f2],.agg #[.int .i64 (aI q 1).f0,.int .i64 (aI q 1).f1,.int .i64 (aI q 1).f2],.agg #[.int .i64 (aI q 2).f0,.int .i64 (aI q 2).f1,.int .i64 (aI q 2).f2]] (by (try simp only [List.map_toArray,List.map_cons,List.map_nil]);rfl) ?_ ?_ ?_;rotate_left;(· rintro w' hb';with_reducible refine (bT _ _ _ _ _ _ _ _ _ _ _ HAX.out).mono ?_;rintro e w1 ⟨rfl,hb1⟩;exact ⟨rfl,hb1⟩);(· simp only [Act.put,List.setIfInBounds_toArray,List.set_cons_zero,List.set_cons_succ,aZ,bB];rfl))
     | (refine fZ (a':=?_) (.bool false) rfl rfl Try.func84 rfl rfl rfl (by rfl) (by kernel_rfl) rfl #[.agg #[.int .i64 (aI q 3).f0,.int .i64 (aI q 3).f1,.int .i64 (aI q 3).f2],.agg #[.int .i64 (aI q 4).f0,.int .i64 (aI q 4).f1,.int .i64 (aI q 4).f2],.agg #[.int .i64 (aI q 5).f0,.int .i64 (aI q 5).f1,.int .i64 (aI q 5).f2]] (by (try simp only [List.map_toArray,List.map_cons,List.map_nil]);rfl) ?_ ?_ ?_;rotate_left;(· rintro w' hb';with_reducible refine (bT _ _ _ _ _ _ _ _ _ _ _ HAY.out).mono ?_;rintro e w1 ⟨rfl,hb1⟩;exact ⟨rfl,hb1⟩);(· simp only [Act.put,List.setIfInBounds_toArray,List.set_cons_zero,List.set_cons_succ,aZ,bB];rfl))
     | (refine qG (a':=?_) rfl rfl rfl rfl (by rfl) ?_ ?_;rotate_left;(· simp only [Act.put,List.setIfInBounds_toArray,List.set_cons_zero,List.set_cons_succ,aZ,bB];rfl)))
    refine fB ?_
    intro w2 hb2
    refine dD (by kernel_rfl) ?_
    have m0_:=aD (bZ HB.out (aM HB.out) hb2)
    clear HB hb2
    have HB:=m0_
    clear m0_
    go_wp2_with (first
     | ((with_reducible refine aW (N:=47) rfl ?_);refine Kd.R_lit gG _ 72 ?hg (N:=47) ?hd (xs:=([]:List rZ)) (inner:=[]) (ok:=fun _=>True) (okp:=fun _=>True) ?hr ?hp (fun _ hk=>hk) trivial (Below.refl _ _) (Nat.le_refl _) (by simp) ?_;(case hd=>rfl);(case hg=>rfl);(case hr=>first|(go_simp;done)|(go_simp;rfl));(case hp=>exact (iE.none _ _));intro v9 w9 ho9 hb9 hg_ hnew_;have HO9:=aD (Kd.R_lower ho9 (aM HB.out));have HB9:=aD (aE HB.out hb9);clear hg_ hnew_ ho9 hb9))
    go_ret2
    exact ⟨_,rfl,HO9.out,HB9.out⟩
   | true =>
    rw [if_pos rfl] at h
    obtain ⟨⟨t1,t2,t3⟩,ht,h⟩:=iS h
    obtain ⟨⟨s1_,s2_,s3_⟩,hu,h⟩:=iS h
    have HT:=aD (show spec_CrossOf.f k (aI q 0).f0 (aI q 0).f1 (aI q 0).f2 (aI q 1).f0 (aI q 1).f1 (aI q 1).f2=some (t1,t2,t3) from ht)
    have HU:=aD (show spec_CrossOf.f k (aI q 3).f0 (aI q 3).f1 (aI q 3).f2 (aI q 4).f0 (aI q 4).f1 (aI q 4).f2=some (s1_,s2_,s3_) from hu)
    have H':=aD h
    clear ht hu h
    refine dH (S:=fun w'=>Below W1.heap.size W1 w') 28 W1.heap.size [] (by kernel_rfl) (by kernel_rfl) (cB (Below.refl _ _)) (fun _ _ h1 h2=>h1.trans h2) (fun _ h1=>h1.size) ?_
    iterate 28 (first
     | (refine eH (v:=?_) (a':=?_) rfl rfl rfl rfl (by rfl) ?_ ?_ ?_;rotate_left 2;(· rintro w' hb';go_simp;with_reducible rfl);(· simp only [Act.put,List.setIfInBounds_toArray,List.set_cons_zero,List.set_cons_succ,aZ,bB];rfl))
     | (refine eH (v:=?_) (a':=?_) rfl rfl rfl rfl (by rfl) ?_ ?_ ?_;rotate_left 2;(· rintro w' hb';have s0:=aG hb' hp0;have s1:=aG hb' hp1;have s2:=aG hb' hp2;have s3:=aG hb' hp3;have s4:=aG hb' hp4;have s5:=aG hb' hp5;have s6:=aG hb' hp6;have s7:=aG hb' hp7;have s8:=aG hb' hp8;have s9:=aG hb' hp9;have s10:=aG hb' hp10;have s11:=aG hb' hp11;have s12:=aG hb' hp12;have s13:=aG hb' hp13;have s14:=aG hb' hp14;have s15:=aG hb' hp15;have s16:=aG hb' hp16;have s17:=aG hb' hp17;go_simp;with_reducible rfl);(· simp only [Act.put,List.setIfInBounds_toArray,List.set_cons_zero,List.set_cons_succ,aZ,bB];rfl))
     | (refine fZ (a':=?_) (.bool true) rfl rfl Try.func84 rfl rfl rfl (by rfl) (by kernel_rfl) rfl #[.agg #[.int .i64 (aI q 0).f0,.int .i64 (aI q 0).f1,.int .i64 (aI q 0).f2],.agg #[.int .i64 (aI q 1).f0,.int .i64 (aI q 1).f1,.int .i64 (aI q 1).f2],.agg #[.int .i64 (aI q 2).f0,.int .i64 (aI q 2).f1,.int .i64 (aI q 2).f2]] (by (try simp only [List.map_toArray,List.map_cons,List.map_nil]);rfl) ?_ ?_ ?_;rotate_left;(· rintro w' hb';with_reducible refine (bT _ _ _ _ _ _ _ _ _ _ _ HAX.out).mono ?_;rintro e w1 ⟨rfl,hb1⟩;exact ⟨rfl,hb1⟩);(· simp only [Act.put,List.setIfInBounds_toArray,List.set_cons_zero,List.set_cons_succ,aZ,bB];rfl))
     | (refine fZ (a':=?_) (.bool true) rfl rfl Try.func84 rfl rfl rfl (by rfl) (by kernel_rfl) rfl #[.agg #[.int .i64 (aI q 3).f0,.int .i64 (aI q 3).f1,.int .i64 (aI q 3).f2],.agg #[.int .i64 (aI q 4).f0,.int .i64 (aI q 4).f1,.int .i64 (aI q 4).f2],.agg #[.int .i64 (aI q 5).f0,.int .i64 (aI q 5).f1,.int .i64 (aI q 5).f2]] (by (try simp only [List.map_toArray,List.map_cons,List.map_nil]);rfl) ?_ ?_ ?_;rotate_left;(· rintro w' hb';with_reducible refine (bT _ _ _ _ _ _ _ _ _ _ _ HAY.out).mono ?_;rintro e w1 ⟨rfl,hb1⟩;exact ⟨rfl,hb1⟩);(· simp only [Act.put,List.setIfInBounds_toArray,List.set_cons_zero,List.set_cons_succ,aZ,bB];rfl))
     | (refine qG (a':=?_) rfl rfl rfl rfl (by rfl) ?_ ?_;rotate_left;(· simp only [Act.put,List.setIfInBounds_toArray,List.set_cons_zero,List.set_cons_succ,aZ,bB];rfl)))
    refine fB ?_
    intro w2 hb2
    refine dD (by kernel_rfl) ?_
    have m0_:=aD (bZ HB.out (aM HB.out) hb2)
    have m1_:=aD (Kd.R_below HQ.out hb2)
    replace hp0:=aG hb2 hp0
    replace hp1:=aG hb2 hp1
    replace hp2:=aG hb2 hp2
    replace hp3:=aG hb2 hp3
    replace hp4:=aG hb2 hp4
    replace hp5:=aG hb2 hp5
    replace hp6:=aG hb2 hp6
    replace hp7:=aG hb2 hp7
    replace hp8:=aG hb2 hp8
    replace hp9:=aG hb2 hp9
    replace hp10:=aG hb2 hp10
    replace hp11:=aG hb2 hp11
    replace hp12:=aG hb2 hp12
    replace hp13:=aG hb2 hp13
    replace hp14:=aG hb2 hp14
    replace hp15:=aG hb2 hp15
    replace hp16:=aG hb2 hp16
    replace hp17:=aG hb2 hp17
    clear HB HQ hb2
    have HB:=m0_
    have HQ:=m1_
    clear m0_ m1_
    clear HAX HAY
    go_wp2_with fail
    refine dH (S:=fun w'=>Below w2.heap.size w2 w') 9 w2.heap.size [(7,8)] (by kernel_rfl) (by kernel_rfl) (cB (Below.refl _ _)) (fun _ _ h1 h2=>h1.trans h2) (fun _ h1=>h1.size) ?_
    iterate 9 (first
     | (refine eH (v:=?_) (a':=?_) rfl rfl rfl rfl (by rfl) ?_ ?_ ?_;rotate_left 2;(· rintro w' hb';go_simp;with_reducible rfl);(· simp only [Act.put,List.setIfInBounds_toArray,List.set_cons_zero,List.set_cons_succ,aZ,bB];rfl))
     | (refine eH (v:=?_) (a':=?_) rfl rfl rfl rfl (by rfl) ?_ ?_ ?_;rotate_left 2;(· rintro w' hb';have s0:=aG hb' hp0;have s1:=aG hb' hp1;have s2:=aG hb' hp2;have s3:=aG hb' hp3;have s4:=aG hb' hp4;have s5:=aG hb' hp5;have s6:=aG hb' hp6;have s7:=aG hb' hp7;have s8:=aG hb' hp8;have s9:=aG hb' hp9;have s10:=aG hb' hp10;have s11:=aG hb' hp11;have s12:=aG hb' hp12;have s13:=aG hb' hp13;have s14:=aG hb' hp14;have s15:=aG hb' hp15;have s16:=aG hb' hp16;have s17:=aG hb' hp17;go_simp;with_reducible rfl);(· simp only [Act.put,List.setIfInBounds_toArray,List.set_cons_zero,List.set_cons_succ,aZ,bB];rfl))
     | (refine fZ (a':=?_) (.agg #[.int .i64 t1,.int .i64 t2,.int .i64 t3]) rfl rfl Try.func82 rfl rfl rfl (by rfl) (by kernel_rfl) rfl #[.agg #[.int .i64 (aI q 0).f0,.int .i64 (aI q 0).f1,.int .i64 (aI q 0).f2],.agg #[.int .i64 (aI q 1).f0,.int .i64 (aI q 1).f1,.int .i64 (aI q 1).f2]] (by (try simp only [List.map_toArray,List.map_cons,List.map_nil]);rfl) ?_ ?_ ?_;rotate_left;(· rintro w' hb';with_reducible refine (aH k _ _ _ _ _ _ t1 t2 t3 _ HT.out).mono ?_;rintro e w1 ⟨rfl,hb1⟩;exact ⟨rfl,hb1⟩);(· simp only [Act.put,List.setIfInBounds_toArray,List.set_cons_zero,List.set_cons_succ,aZ,bB];rfl))
     | (refine lD #[.int .i64 0,.int .i64 0,.int .i64 0] 72 (some (8,#[.int .i64 t1,.int .i64 t2,.int .i64 t3])) rfl rfl rfl rfl (by rfl) ?_ ?_;(· rintro w' hb';first|(go_simp;done)|(go_simp;rfl)))
     | (refine lE 0 rfl rfl rfl rfl rfl rfl (fun g=>by rfl) ?_ ?_;(· rintro g w' hb' hg hn;have hs0:=(bJ hg 0).trans rfl;have hs1:=(bJ hg 1).trans rfl;have hs2:=(bJ hg 2).trans rfl;have hf0:=aC hg 0;have hf1:=aC hg 1;have hf2:=aC hg 2;refine ⟨_,?_,(gB hg _ _ _).1,(gB hg _ _ _).2⟩;first|(go_simp;done)|(go_simp;rfl))))
    refine fB ?_
    intro w3 hb_ g1 _ h_ _
    refine dD (by kernel_rfl) ?_
    have hg10:w3.cell? ⟨g1,0,none⟩=some (.int .i64 t1):=by simp [World.cell?,h_,cH]
    have hg11:w3.cell? ⟨g1,1,none⟩=some (.int .i64 t2):=by simp [World.cell?,h_,cH]
    have hg12:w3.cell? ⟨g1,2,none⟩=some (.int .i64 t3):=by simp [World.cell?,h_,cH]
    have m0_:=aD (bZ HB.out (aM HB.out) hb_)
    have m1_:=aD (Kd.R_below HQ.out hb_)
    replace hp0:=aG hb_ hp0
    replace hp1:=aG hb_ hp1
    replace hp2:=aG hb_ hp2
    replace hp3:=aG hb_ hp3
    replace hp4:=aG hb_ hp4
    replace hp5:=aG hb_ hp5
    replace hp6:=aG hb_ hp6
    replace hp7:=aG hb_ hp7
    replace hp8:=aG hb_ hp8
    replace hp9:=aG hb_ hp9
    replace hp10:=aG hb_ hp10
    replace hp11:=aG hb_ hp11
    replace hp12:=aG hb_ hp12
    replace hp13:=aG hb_ hp13
    replace hp14:=aG hb_ hp14
    replace hp15:=aG hb_ hp15
    replace hp16:=aG hb_ hp16
    replace hp17:=aG hb_ hp17
    clear HB HQ hb_
    have HB:=m0_
    have HQ:=m1_
    clear m0_ m1_
    clear h_
    go_wp2_with fail
    refine dH (S:=fun w'=>Below w3.heap.size w3 w') 9 w3.heap.size [(7,8)] (by kernel_rfl) (by kernel_rfl) (cB (Below.refl _ _)) (fun _ _ h1 h2=>h1.trans h2) (fun _ h1=>h1.size) ?_
    iterate 9 (first
     | (refine eH (v:=?_) (a':=?_) rfl rfl rfl rfl (by rfl) ?_ ?_ ?_;rotate_left 2;(· rintro w' hb';go_simp;with_reducible rfl);(· simp only [Act.put,List.setIfInBounds_toArray,List.set_cons_zero,List.set_cons_succ,aZ,bB];rfl))
     | (refine eH (v:=?_) (a':=?_) rfl rfl rfl rfl (by rfl) ?_ ?_ ?_;rotate_left 2;(· rintro w' hb';have s0:=aG hb' hp0;have s1:=aG hb' hp1;have s2:=aG hb' hp2;have s3:=aG hb' hp3;have s4:=aG hb' hp4;have s5:=aG hb' hp5;have s6:=aG hb' hp6;have s7:=aG hb' hp7;have s8:=aG hb' hp8;have s9:=aG hb' hp9;have s10:=aG hb' hp10;have s11:=aG hb' hp11;have s12:=aG hb' hp12;have s13:=aG hb' hp13;have s14:=aG hb' hp14;have s15:=aG hb' hp15;have s16:=aG hb' hp16;have s17:=aG hb' hp17;go_simp;with_reducible rfl);(· simp only [Act.put,List.setIfInBounds_toArray,List.set_cons_zero,List.set_cons_succ,aZ,bB];rfl))
     | (refine fZ (a':=?_) (.agg #[.int .i64 s1_,.int .i64 s2_,.int .i64 s3_]) rfl rfl Try.func82 rfl rfl rfl (by rfl) (by kernel_rfl) rfl #[.agg #[.int .i64 (aI q 3).f0,.int .i64 (aI q 3).f1,.int .i64 (aI q 3).f2],.agg #[.int .i64 (aI q 4).f0,.int .i64 (aI q 4).f1,.int .i64 (aI q 4).f2]] (by (try simp only [List.map_toArray,List.map_cons,List.map_nil]);rfl) ?_ ?_ ?_;rotate_left;(· rintro w' hb';with_reducible refine (aH k _ _ _ _ _ _ s1_ s2_ s3_ _ HU.out).mono ?_;rintro e w1 ⟨rfl,hb1⟩;exact ⟨rfl,hb1⟩);(· simp only [Act.put,List.setIfInBounds_toArray,List.set_cons_zero,List.set_cons_succ,aZ,bB];rfl))
     | (refine lD #[.int .i64 0,.int .i64 0,.int .i64 0] 72 (some (8,#[.int .i64 s1_,.int .i64 s2_,.int .i64 s3_])) rfl rfl rfl rfl (by rfl) ?_ ?_;(· rintro w' hb';first|(go_simp;done)|(go_simp;rfl)))
     | (refine lE 0 rfl rfl rfl rfl rfl rfl (fun g=>by rfl) ?_ ?_;(· rintro g w' hb' hg hn;have hs0:=(bJ hg 0).trans rfl;have hs1:=(bJ hg 1).trans rfl;have hs2:=(bJ hg 2).trans rfl;have hf0:=aC hg 0;have hf1:=aC hg 1;have hf2:=aC hg 2;refine ⟨_,?_,(gB hg _ _ _).1,(gB hg _ _ _).2⟩;first|(go_simp;done)|(go_simp;rfl))))
    refine fB ?_
    intro w4 hb_ g2 _ h_ _
    refine dD (by kernel_rfl) ?_
    have hg20:w4.cell? ⟨g2,0,none⟩=some (.int .i64 s1_):=by simp [World.cell?,h_,cH]
    have hg21:w4.cell? ⟨g2,1,none⟩=some (.int .i64 s2_):=by simp [World.cell?,h_,cH]
    have hg22:w4.cell? ⟨g2,2,none⟩=some (.int .i64 s3_):=by simp [World.cell?,h_,cH]
    have m0_:=aD (bZ HB.out (aM HB.out) hb_)
    have m1_:=aD (Kd.R_below HQ.out hb_)
    replace hg10:=aG hb_ hg10
    replace hg11:=aG hb_ hg11
    replace hg12:=aG hb_ hg12
    clear HB HQ hb_
    have HB:=m0_
    have HQ:=m1_
    clear m0_ m1_
    clear h_
    clear HT HU hp0 hp1 hp2 hp3 hp4 hp5 hp6 hp7 hp8 hp9 hp10 hp11 hp12 hp13 hp14 hp15 hp16 hp17
    generalize hw4:w4=W4 at HB HQ hg10 hg11 hg12 hg20 hg21 hg22 ⊢
    clear hw4
    go_wp2_with fail
    go_loopg [8] k (fun kq v8 wr=>∃ (i:Nat),v8=.int .i64 i∧i≤3∧Aside0 (eT kq q (t1,t2,t3) (s1_,s2_,s3_) i=some (r1,r2))∧Aside0 (kq≤k)∧Aside0 (Kd.R gG 72 wr w.heap.size (fun _=>True) (.slice (some ad0) 6 c1) q)∧Aside0 (Below w.heap.size w wr)∧Aside0 (wr.cell? ⟨g1,0,none⟩=some (.int .i64 t1)∧wr.cell? ⟨g1,1,none⟩=some (.int .i64 t2)∧wr.cell? ⟨g1,2,none⟩=some (.int .i64 t3)∧wr.cell? ⟨g2,0,none⟩=some (.int .i64 s1_)∧wr.cell? ⟨g2,1,none⟩=some (.int .i64 s2_)∧wr.cell? ⟨g2,2,none⟩=some (.int .i64 s3_)))
    case atStart=>exact ⟨0,rfl,Nat.zero_le _,H',⟨Nat.le_refl _⟩,⟨by have:=HQ.out;rwa [H6.out] at this⟩,HB,⟨⟨hg10,hg11,hg12,hg20,hg21,hg22⟩⟩⟩
    case round =>
     clear HB HQ H' hg10 hg11 hg12 hg20 hg21 hg22
     obtain ⟨i,rfl,hil,HA,HK1,HQ,HB,HG⟩:=hrel
     cases gk with
     | zero=>exact absurd HA.out (by simp [eT])
     | succ k1 =>
      have H:=HA.out
      clear HA
      simp only [eT] at H
      by_cases hlt:i<3
      ·rw [if_pos hlt] at H
       have hltz:(i:Int)<3:=by omega
       obtain ⟨z3,hz3⟩:∃ z:Int,3+(i:Int)=z:=⟨_,rfl⟩
       rw [hz3] at H
       have HW3:=aD (show wrap64 (3+(i:Int))=z3 by unfold wrap64;omega)
       have HZ3:=aD (show 0≤z3∧z3<6 by omega)
       clear hz3
       obtain ⟨xa,ha,H⟩:=iS H
       have HA3:=aD (show spec_AreOnOne.f (aI q 3).f0 (aI q 3).f1 (aI q 3).f2 (aI q 4).f0 (aI q 4).f1 (aI q 4).f2 (aI q (i:Int)).f0 (aI q (i:Int)).f1 (aI q (i:Int)).f2=some xa from ha)
       have HF:=aD H
       clear ha H
       have hrd:=(Kd.R_reads' HQ.out).2.2
       obtain ⟨ad10,eA,hq0,hq1,hq2⟩:=dJ hrd 0 (by have:=HZ3.out;omega) (by have:=HZ3.out;have:=H6.out;omega)
       cases eA
       obtain ⟨ad11,eA,hq3,hq4,hq5⟩:=dJ hrd 1 (by have:=HZ3.out;omega) (by have:=HZ3.out;have:=H6.out;omega)
       cases eA
       obtain ⟨ad12,eA,hq6,hq7,hq8⟩:=dJ hrd 3 (by have:=HZ3.out;omega) (by have:=HZ3.out;have:=H6.out;omega)
       cases eA
       obtain ⟨ad13,eA,hq9,hq10,hq11⟩:=dJ hrd 4 (by have:=HZ3.out;omega) (by have:=HZ3.out;have:=H6.out;omega)
       cases eA
       obtain ⟨ad14,eA,hq12,hq13,hq14⟩:=dJ hrd (i:Int) (by have:=HZ3.out;omega) (by have:=HZ3.out;have:=H6.out;omega)
       cases eA
       obtain ⟨ad15,eA,hq15,hq16,hq17⟩:=dJ hrd z3 (by have:=HZ3.out;omega) (by have:=HZ3.out;have:=H6.out;omega)
       cases eA
       clear hrd
       simp only [Int.reduceToNat,Nat.reduceMul,Addr.add_zero'] at hq0 hq1 hq2
       simp only [Int.reduceToNat,Nat.reduceMul,Nat.reduceEqDiff,Nat.add_assoc,Nat.reduceAdd,Go.Addr.add,↓reduceIte] at hq3 hq4 hq5 hq6 hq7 hq8 hq9 hq10 hq11
       simp only [Int.toNat_natCast] at hq12 hq13 hq14
       have hu4:((i:Int)<6)=True:=eq_true (by omega)
       have hl5:(0≤z3)=True:=eq_true HZ3.out.1
       have hu5:(z3<6)=True:=eq_true HZ3.out.2
       go_wp2_with fail
       cases xa with
       | true =>
        have h:=HF.out
        rw [if_pos rfl] at h
        obtain ⟨rfl,rfl⟩:=Prod.mk.inj (Option.some.inj (show some (([]:List rZ),false)=some (r1,r2) from h))
        clear h HF
        refine dH (S:=fun w'=>Below wr.heap.size wr w') 25 wr.heap.size [] (by kernel_rfl) (by kernel_rfl) (cB (Below.refl _ _)) (fun _ _ h1 h2=>h1.trans h2) (fun _ h1=>h1.size) ?_
        iterate 25 (first
         | (refine eH (v:=.int .i64 z3) (a':=?_) rfl rfl rfl rfl (by rfl) ?_ ?_ ?_;rotate_left 1;(· rintro w' hb';go_simp;exact (aZ _).trans HW3.out);(· simp only [Act.put,List.setIfInBounds_toArray,List.set_cons_zero,List.set_cons_succ,aZ,bB];rfl))
         | (refine eH (v:=?_) (a':=?_) rfl rfl rfl rfl (by rfl) ?_ ?_ ?_;rotate_left 2;(· rintro w' hb';go_simp;with_reducible rfl);(· simp only [Act.put,List.setIfInBounds_toArray,List.set_cons_zero,List.set_cons_succ,aZ,bB];rfl))
         | (refine eH (v:=?_) (a':=?_) rfl rfl rfl rfl (by rfl) ?_ ?_ ?_;rotate_left 2;(· rintro w' hb';have s0:=aG hb' hq0;have s1:=aG hb' hq1;have s2:=aG hb' hq2;have s3:=aG hb' hq3;have s4:=aG hb' hq4;have s5:=aG hb' hq5;have s6:=aG hb' hq6;have s7:=aG hb' hq7;have s8:=aG hb' hq8;have s9:=aG hb' hq9;have s10:=aG hb' hq10;have s11:=aG hb' hq11;have s12:=aG hb' hq12;have s13:=aG hb' hq13;have s14:=aG hb' hq14;have s15:=aG hb' hq15;have s16:=aG hb' hq16;have s17:=aG hb' hq17;go_simp;with_reducible rfl);(· simp only [Act.put,List.setIfInBounds_toArray,List.set_cons_zero,List.set_cons_succ,aZ,bB];rfl))
         | (refine fZ (a':=?_) (.bool true) rfl rfl Try.func84 rfl rfl rfl (by rfl) (by kernel_rfl) rfl #[.agg #[.int .i64 (aI q 3).f0,.int .i64 (aI q 3).f1,.int .i64 (aI q 3).f2],.agg #[.int .i64 (aI q 4).f0,.int .i64 (aI q 4).f1,.int .i64 (aI q 4).f2],.agg #[.int .i64 (aI q (i:Int)).f0,.int .i64 (aI q (i:Int)).f1,.int .i64 (aI q (i:Int)).f2]] (by (try simp only [List.map_toArray,List.map_cons,List.map_nil]);rfl) ?_ ?_ ?_;rotate_left;(· rintro w' hb';with_reducible refine (bT _ _ _ _ _ _ _ _ _ _ _ HA3.out).mono ?_;rintro e w1 ⟨rfl,hb1⟩;exact ⟨rfl,hb1⟩);(· simp only [Act.put,List.setIfInBounds_toArray,List.set_cons_zero,List.set_cons_succ,aZ,bB];rfl))
         | (refine qG (a':=?_) rfl rfl rfl rfl (by rfl) ?_ ?_;rotate_left;(· simp only [Act.put,List.setIfInBounds_toArray,List.set_cons_zero,List.set_cons_succ,aZ,bB];rfl)))
        refine fB ?_
        intro w2 hb2
        refine dD (by kernel_rfl) ?_
        have m0_:=aD (bZ HB.out (aM HB.out) hb2)
        clear HB hb2
        have HB:=m0_
        clear m0_
        go_wp2_with (first
         | ((with_reducible refine aW (N:=91) rfl ?_);refine Kd.R_lit gG _ 72 ?hg (N:=91) ?hd (xs:=([]:List rZ)) (inner:=[]) (ok:=fun _=>True) (okp:=fun _=>True) ?hr ?hp (fun _ hk=>hk) trivial (Below.refl _ _) (Nat.le_refl _) (by simp) ?_;(case hd=>rfl);(case hg=>rfl);(case hr=>first|(go_simp;done)|(go_simp;rfl));(case hp=>exact (iE.none _ _));intro v9 w9 ho9 hb9 hg_ hnew_;have HO9:=aD (Kd.R_lower ho9 (aM HB.out));have HB9:=aD (aE HB.out hb9);clear hg_ hnew_ ho9 hb9))
        go_ret2
        exact ⟨_,rfl,HO9.out,HB9.out⟩
       | false =>
        have h:=HF.out
        rw [if_neg (by decide)] at h
        obtain ⟨xb,hb_,h⟩:=iS h
        have HB3:=aD (show spec_AreOnOne.f (aI q 0).f0 (aI q 0).f1 (aI q 0).f2 (aI q 1).f0 (aI q 1).f1 (aI q 1).f2 (aI q z3).f0 (aI q z3).f1 (aI q z3).f2=some xb from hb_)
        clear hb_ HF
        cases xb with
        | true =>
         rw [if_pos rfl] at h
         obtain ⟨rfl,rfl⟩:=Prod.mk.inj (Option.some.inj (show some (([]:List rZ),false)=some (r1,r2) from h))
         clear h
         refine dH (S:=fun w'=>Below wr.heap.size wr w') 25 wr.heap.size [] (by kernel_rfl) (by kernel_rfl) (cB (Below.refl _ _)) (fun _ _ h1 h2=>h1.trans h2) (fun _ h1=>h1.size) ?_
         iterate 25 (first
          | (refine eH (v:=.int .i64 z3) (a':=?_) rfl rfl rfl rfl (by rfl) ?_ ?_ ?_;rotate_left 1;(· rintro w' hb';go_simp;exact (aZ _).trans HW3.out);(· simp only [Act.put,List.setIfInBounds_toArray,List.set_cons_zero,List.set_cons_succ,aZ,bB];rfl))
          | (refine eH (v:=?_) (a':=?_) rfl rfl rfl rfl (by rfl) ?_ ?_ ?_;rotate_left 2;(· rintro w' hb';go_simp;with_reducible rfl);(· simp only [Act.put,List.setIfInBounds_toArray,List.set_cons_zero,List.set_cons_succ,aZ,bB];rfl))
          | (refine eH (v:=?_) (a':=?_) rfl rfl rfl rfl (by rfl) ?_ ?_ ?_;rotate_left 2;(· rintro w' hb';have s0:=aG hb' hq0;have s1:=aG hb' hq1;have s2:=aG hb' hq2;have s3:=aG hb' hq3;have s4:=aG hb' hq4;have s5:=aG hb' hq5;have s6:=aG hb' hq6;have s7:=aG hb' hq7;have s8:=aG hb' hq8;have s9:=aG hb' hq9;have s10:=aG hb' hq10;have s11:=aG hb' hq11;have s12:=aG hb' hq12;have s13:=aG hb' hq13;have s14:=aG hb' hq14;have s15:=aG hb' hq15;have s16:=aG hb' hq16;have s17:=aG hb' hq17;go_simp;with_reducible rfl);(· simp only [Act.put,List.setIfInBounds_toArray,List.set_cons_zero,List.set_cons_succ,aZ,bB];rfl))
          | (refine fZ (a':=?_) (.bool false) rfl rfl Try.func84 rfl rfl rfl (by rfl) (by kernel_rfl) rfl #[.agg #[.int .i64 (aI q 3).f0,.int .i64 (aI q 3).f1,.int .i64 (aI q 3).f2],.agg #[.int .i64 (aI q 4).f0,.int .i64 (aI q 4).f1,.int .i64 (aI q 4).f2],.agg #[.int .i64 (aI q (i:Int)).f0,.int .i64 (aI q (i:Int)).f1,.int .i64 (aI q (i:Int)).f2]] (by (try simp only [List.map_toArray,List.map_cons,List.map_nil]);rfl) ?_ ?_ ?_;rotate_left;(· rintro w' hb';with_reducible refine (bT _ _ _ _ _ _ _ _ _ _ _ HA3.out).mono ?_;rintro e w1 ⟨rfl,hb1⟩;exact ⟨rfl,hb1⟩);(· simp only [Act.put,List.setIfInBounds_toArray,List.set_cons_zero,List.set_cons_succ,aZ,bB];rfl))
          | (refine fZ (a':=?_) (.bool true) rfl rfl Try.func84 rfl rfl rfl (by rfl) (by kernel_rfl) rfl #[.agg #[.int .i64 (aI q 0).f0,.int .i64 (aI q 0).f1,.int .i64 (aI q 0).f2],.agg #[.int .i64 (aI q 1).f0,.int .i64 (aI q 1).f1,.int .i64 (aI q 1).f2],.agg #[.int .i64 (aI q z3).f0,.int .i64 (aI q z3).f1,.int .i64 (aI q z3).f2]] (by (try simp only [List.map_toArray,List.map_cons,List.map_nil]);rfl) ?_ ?_ ?_;rotate_left;(· rintro w' hb';with_reducible refine (bT _ _ _ _ _ _ _ _ _ _ _ HB3.out).mono ?_;rintro e w1 ⟨rfl,hb1⟩;exact ⟨rfl,hb1⟩);(· simp only [Act.put,List.setIfInBounds_toArray,List.set_cons_zero,List.set_cons_succ,aZ,bB];rfl))
          | (refine qG (a':=?_) rfl rfl rfl rfl (by rfl) ?_ ?_;rotate_left;(· simp only [Act.put,List.setIfInBounds_toArray,List.set_cons_zero,List.set_cons_succ,aZ,bB];rfl)))
         refine fB ?_
         intro w2 hb2
         refine dD (by kernel_rfl) ?_
         have m0_:=aD (bZ HB.out (aM HB.out) hb2)
         clear HB hb2
         have HB:=m0_
         clear m0_
         go_wp2_with (first
          | ((with_reducible refine aW (N:=91) rfl ?_);refine Kd.R_lit gG _ 72 ?hg (N:=91) ?hd (xs:=([]:List rZ)) (inner:=[]) (ok:=fun _=>True) (okp:=fun _=>True) ?hr ?hp (fun _ hk=>hk) trivial (Below.refl _ _) (Nat.le_refl _) (by simp) ?_;(case hd=>rfl);(case hg=>rfl);(case hr=>first|(go_simp;done)|(go_simp;rfl));(case hp=>exact (iE.none _ _));intro v9 w9 ho9 hb9 hg_ hnew_;have HO9:=aD (Kd.R_lower ho9 (aM HB.out));have HB9:=aD (aE HB.out hb9);clear hg_ hnew_ ho9 hb9))
         go_ret2
         exact ⟨_,rfl,HO9.out,HB9.out⟩
        | false =>
         rw [if_neg (by decide)] at h
         have H':=aD h
         clear h
         refine dH (S:=fun w'=>Below wr.heap.size wr w') 25 wr.heap.size [] (by kernel_rfl) (by kernel_rfl) (cB (Below.refl _ _)) (fun _ _ h1 h2=>h1.trans h2) (fun _ h1=>h1.size) ?_
         iterate 25 (first
          | (refine eH (v:=.int .i64 z3) (a':=?_) rfl rfl rfl rfl (by rfl) ?_ ?_ ?_;rotate_left 1;(· rintro w' hb';go_simp;exact (aZ _).trans HW3.out);(· simp only [Act.put,List.setIfInBounds_toArray,List.set_cons_zero,List.set_cons_succ,aZ,bB];rfl))
          | (refine eH (v:=?_) (a':=?_) rfl rfl rfl rfl (by rfl) ?_ ?_ ?_;rotate_left 2;(· rintro w' hb';go_simp;with_reducible rfl);(· simp only [Act.put,List.setIfInBounds_toArray,List.set_cons_zero,List.set_cons_succ,aZ,bB];rfl))
          | (refine eH (v:=?_) (a':=?_) rfl rfl rfl rfl (by rfl) ?_ ?_ ?_;rotate_left 2;(· rintro w' hb';have s0:=aG hb' hq0;have s1:=aG hb' hq1;have s2:=aG hb' hq2;have s3:=aG hb' hq3;have s4:=aG hb' hq4;have s5:=aG hb' hq5;have s6:=aG hb' hq6;have s7:=aG hb' hq7;have s8:=aG hb' hq8;have s9:=aG hb' hq9;have s10:=aG hb' hq10;have s11:=aG hb' hq11;have s12:=aG hb' hq12;have s13:=aG hb' hq13;have s14:=aG hb' hq14;have s15:=aG hb' hq15;have s16:=aG hb' hq16;have s17:=aG hb' hq17;go_simp;with_reducible rfl);(· simp only [Act.put,List.setIfInBounds_toArray,List.set_cons_zero,List.set_cons_succ,aZ,bB];rfl))
          | (refine fZ (a':=?_) (.bool false) rfl rfl Try.func84 rfl rfl rfl (by rfl) (by kernel_rfl) rfl #[.agg #[.int .i64 (aI q 3).f0,.int .i64 (aI q 3).f1,.int .i64 (aI q 3).f2],.agg #[.int .i64 (aI q 4).f0,.int .i64 (aI q 4).f1,.int .i64 (aI q 4).f2],.agg #[.int .i64 (aI q (i:Int)).f0,.int .i64 (aI q (i:Int)).f1,.int .i64 (aI q (i:Int)).f2]] (by (try simp only [List.map_toArray,List.map_cons,List.map_nil]);rfl) ?_ ?_ ?_;rotate_left;(· rintro w' hb';with_reducible refine (bT _ _ _ _ _ _ _ _ _ _ _ HA3.out).mono ?_;rintro e w1 ⟨rfl,hb1⟩;exact ⟨rfl,hb1⟩);(· simp only [Act.put,List.setIfInBounds_toArray,List.set_cons_zero,List.set_cons_succ,aZ,bB];rfl))
          | (refine fZ (a':=?_) (.bool false) rfl rfl Try.func84 rfl rfl rfl (by rfl) (by kernel_rfl) rfl #[.agg #[.int .i64 (aI q 0).f0,.int .i64 (aI q 0).f1,.int .i64 (aI q 0).f2],.agg #[.int .i64 (aI q 1).f0,.int .i64 (aI q 1).f1,.int .i64 (aI q 1).f2],.agg #[.int .i64 (aI q z3).f0,.int .i64 (aI q z3).f1,.int .i64 (aI q z3).f2]] (by (try simp only [List.map_toArray,List.map_cons,List.map_nil]);rfl) ?_ ?_ ?_;rotate_left;(· rintro w' hb';with_reducible refine (bT _ _ _ _ _ _ _ _ _ _ _ HB3.out).mono ?_;rintro e w1 ⟨rfl,hb1⟩;exact ⟨rfl,hb1⟩);(· simp only [Act.put,List.setIfInBounds_toArray,List.set_cons_zero,List.set_cons_succ,aZ,bB];rfl))
          | (refine qG (a':=?_) rfl rfl rfl rfl (by rfl) ?_ ?_;rotate_left;(· simp only [Act.put,List.setIfInBounds_toArray,List.set_cons_zero,List.set_cons_succ,aZ,bB];rfl)))
         refine fB ?_
         intro w2 hb2
         refine dD (by kernel_rfl) ?_
         have HB2:=aD (bZ HB.out (aM HB.out) hb2)
         have HQ2:=aD (Kd.R_below HQ.out hb2)
         have HG2:=aD (show w2.cell? ⟨g1,0,none⟩=some (.int .i64 t1)∧w2.cell? ⟨g1,1,none⟩=some (.int .i64 t2)∧w2.cell? ⟨g1,2,none⟩=some (.int .i64 t3)∧w2.cell? ⟨g2,0,none⟩=some (.int .i64 s1_)∧w2.cell? ⟨g2,1,none⟩=some (.int .i64 s2_)∧w2.cell? ⟨g2,2,none⟩=some (.int .i64 s3_) from ⟨aG hb2 HG.out.1,aG hb2 HG.out.2.1,aG hb2 HG.out.2.2.1,aG hb2 HG.out.2.2.2.1,aG hb2 HG.out.2.2.2.2.1,aG hb2 HG.out.2.2.2.2.2⟩)
         clear HB HQ HG hb2 hq0 hq1 hq2 hq3 hq4 hq5 hq6 hq7 hq8 hq9 hq10 hq11 hq12 hq13 hq14 hq15 hq16 hq17 hu4 hl5 hu5 HA3 HB3
         go_wp2
         go_roundg k1
         case measure=>have:=HK1.out;omega
         case rel=>exact ⟨i+1,by have e9:wrap64 ((i:Int)+1)=((i+1:Nat):Int):=(by unfold wrap64;omega);first|rfl|exact congrArg (Value.int IntTy.i64) e9|exact congrArg (Value.int IntTy.i64) ((aZ _).trans e9)|exact congrArg (Value.int IntTy.i64) (by omega),by omega,H',⟨by have:=HK1.out;omega⟩,HQ2,HB2,HG2⟩
      ·rw [if_neg hlt] at H
       have hltz:¬ (i:Int)<3:=by omega
       obtain ⟨z,hz,H⟩:=iS H
       have HEQ:=aD (show spec_l26Equal.f k1 t1 t2 t3 s1_ s2_ s3_=some z from hz)
       have HF:=aD H
       clear hz H
       have hg10:=HG.out.1
       have hg11:=HG.out.2.1
       have hg12:=HG.out.2.2.1
       have hg20:=HG.out.2.2.2.1
       have hg21:=HG.out.2.2.2.2.1
       have hg22:=HG.out.2.2.2.2.2
       cases z with
       | true =>
        have h:=HF.out
        rw [if_pos rfl] at h
        obtain ⟨rfl,rfl⟩:=Prod.mk.inj (Option.some.inj (show some (([]:List rZ),false)=some (r1,r2) from h))
        clear h HF
        go_wp2_with (first
         | (go_at_call 123;(with_reducible refine (cN k1 _ _ _ _ _ _ true _ HEQ.out).mono ?_);rintro e w7 ⟨rfl,hb7⟩;have HB7:=aD (aE HB.out hb7);have HQ7:=aD (Kd.R_below HQ.out hb7);clear hb7 HB HQ HG hg10 hg11 hg12 hg20 hg21 hg22)
         | ((with_reducible refine aW (N:=95) rfl ?_);refine Kd.R_lit gG _ 72 ?hg (N:=95) ?hd (xs:=([]:List rZ)) (inner:=[]) (ok:=fun _=>True) (okp:=fun _=>True) ?hr ?hp (fun _ hk=>hk) trivial (Below.refl _ _) (Nat.le_refl _) (by simp) ?_;(case hd=>rfl);(case hg=>rfl);(case hr=>first|(go_simp;done)|(go_simp;rfl));(case hp=>exact (iE.none _ _));intro v9 w9 ho9 hb9 hg_ hnew_;have HO9:=aD (Kd.R_lower ho9 (aM HB7.out));have HB9:=aD (aE HB7.out hb9);clear hg_ hnew_ ho9 hb9))
        go_ret2
        exact ⟨_,rfl,HO9.out,HB9.out⟩
       | false =>
        have h:=HF.out
        rw [if_neg (by decide)] at h
        have H':=aD h
        clear h HF
        go_wp2_with (first
         | (go_at_call 123;(with_reducible refine (cN k1 _ _ _ _ _ _ false _ HEQ.out).mono ?_);rintro e w7 ⟨rfl,hb7⟩;have HB7:=aD (aE HB.out hb7);have HQ7:=aD (Kd.R_below HQ.out hb7);clear hb7 HB HQ HG hg10 hg11 hg12 hg20 hg21 hg22)
         | ((with_reducible refine aW (N:=96) rfl ?_);refine Kd.R_lit gG _ 72 ?hg (N:=96) ?hd (xs:=([]:List rZ)) (inner:=[]) (ok:=fun k_=>k_=w7.heap.size) (okp:=fun k_=>k_=w7.heap.size) ?hr ?hp (fun _ hk=>hk) rfl (Below.refl _ _) (Nat.le_refl _) (by simp) ?_;(case hd=>rfl);(case hg=>rfl);(case hr=>first|(go_simp;done)|(go_simp;rfl));(case hp=>exact (iE.none _ _));intro v9 w9 ho9 hb9 hg_ hnew_;have HO9:=aD (Kd.R_lower ho9 (aM HB7.out));have HB9:=aD (aE HB7.out hb9);have HS9:=aD hb9;clear hg_ hnew_ ho9 hb9))
        have HP:=aD (xE w9)
        have HQ9:=aD (Kd.R_below HQ7.out HS9.out)
        have HQB:=aD (show ∀ b,(Value.slice (some ad0) 6 c1).ownBlock=some b→b<w7.heap.size from fun b hb=>((Kd.R_bound HQ7.out).1 b hb).2.2.1)
        have HO5:=aD (fK (fK (fK (fK (Kd.R_mono (Kd.R_bound HO9.out) (ok':=fun k_=>some k_≠(Value.slice (some ad0) 6 c1).ownBlock∧(k_<w9.heap.size∨w9.heap.size+4≤k_)) (fun k_ hk=>⟨fun e_=>by have h9:=HQB.out k_ e_.symm;have h8:=hk.1;omega,.inl hk.2.2.1⟩)) (.cells #[.int .i64 0,.int .i64 4,.int .i64 1,.int .i64 3] 3)) (.cells #[.int .i64 0,.int .i64 5,.int .i64 2,.int .i64 3] 3)) (.cells #[.int .i64 1,.int .i64 5,.int .i64 2,.int .i64 4] 3)) (.cells #[.slice (some ⟨w9.heap.size,0,none⟩) 4 4,.slice (some ⟨w9.heap.size+1,0,none⟩) 4 4,.slice (some ⟨w9.heap.size+1+1,0,none⟩) 4 4] 29))
        have HQ5:=aD (fK (fK (fK (fK HQ9.out (.cells #[.int .i64 0,.int .i64 4,.int .i64 1,.int .i64 3] 3)) (.cells #[.int .i64 0,.int .i64 5,.int .i64 2,.int .i64 3] 3)) (.cells #[.int .i64 1,.int .i64 5,.int .i64 2,.int .i64 4] 3)) (.cells #[.slice (some ⟨w9.heap.size,0,none⟩) 4 4,.slice (some ⟨w9.heap.size+1,0,none⟩) 4 4,.slice (some ⟨w9.heap.size+1+1,0,none⟩) 4 4] 29))
        have HB5:=aD (qH (qH (qH (qH HB9.out (.cells #[.int .i64 0,.int .i64 4,.int .i64 1,.int .i64 3] 3)) (.cells #[.int .i64 0,.int .i64 5,.int .i64 2,.int .i64 3] 3)) (.cells #[.int .i64 1,.int .i64 5,.int .i64 2,.int .i64 4] 3)) (.cells #[.slice (some ⟨w9.heap.size,0,none⟩) 4 4,.slice (some ⟨w9.heap.size+1,0,none⟩) 4 4,.slice (some ⟨w9.heap.size+1+1,0,none⟩) 4 4] 29))
        have HQG:=aD (show ∀ b,(Value.slice (some ad0) 6 c1).ownBlock=some b→b<w9.heap.size from fun b hb=>((Kd.R_bound HQ9.out).1 b hb).2.2.1)
        have HGW:=aD (aM HB9.out)
        clear HO9 HQ9 HB9 HS9 HQB HB7 HQ7
        rw [show w9.heap.size+1+1+1=w9.heap.size+3 from rfl]
        generalize ((((w9.alloc (.cells #[.int .i64 0,.int .i64 4,.int .i64 1,.int .i64 3] 3)).alloc (.cells #[.int .i64 0,.int .i64 5,.int .i64 2,.int .i64 3] 3)).alloc (.cells #[.int .i64 1,.int .i64 5,.int .i64 2,.int .i64 4] 3)).alloc (.cells #[.slice (some ⟨w9.heap.size,0,none⟩) 4 4,.slice (some ⟨w9.heap.size+1,0,none⟩) 4 4,.slice (some ⟨w9.heap.size+1+1,0,none⟩) 4 4] 29))=W5 at HP HO5 HQ5 HB5 ⊢
        generalize w9.heap.size=g at HP HO5 HQG HGW ⊢
        go_loopg [9,11] k1 (fun kq v9_ v11_ wr=>∃ (out:List rZ) (i:Nat),v11_=.int .i64 i∧i≤3∧Aside0 (eS kq q out i=some (r1,r2))∧Aside0 (kq≤k1)∧Aside0 (Kd.R gG 72 wr w.heap.size (fun k_=>some k_≠(Value.slice (some ad0) 6 c1).ownBlock∧(k_<g∨g+4≤k_)) v9_ out)∧Aside0 (Kd.R gG 72 wr w.heap.size (fun _=>True) (.slice (some ad0) 6 c1) q)∧Aside0 (rE wr g)∧Aside0 (Below w.heap.size w wr))
        case atStart=>exact ⟨[],0,rfl,Nat.zero_le _,H',⟨Nat.le_refl _⟩,HO5,HQ5,HP,HB5⟩
        case round =>
         clear HB5 HO5 HQ5 HP H' HEQ hltz hlt hil
         obtain ⟨out,i,rfl,hil,HA,HK2,HO,HQ,HP,HB⟩:=hrel
         cases gk with
         | zero=>exact absurd HA.out (by simp [eS])
         | succ k2 =>
          have H:=HA.out
          clear HA
          simp only [eS] at H
          by_cases hlt:i<3
          ·rw [if_pos hlt] at H
           have hltz:(i:Int)<3:=by omega
           obtain ⟨⟨t1,t2,t3⟩,ht,H⟩:=iS H
           obtain ⟨⟨s1_,s2_,s3_⟩,hu,H⟩:=iS H
           obtain ⟨⟨c1',c2_,c3_⟩,hc,H⟩:=iS H
           by_cases hol:out.length<1000000
           case neg=>rw [if_neg hol] at H;cases H
           rw [if_pos hol] at H
           obtain ⟨hf,hft⟩:=HP.out.1 i hlt
           have hf0:=hf 0 (by omega)
           have hf1:=hf 1 (by omega)
           have hf2:=hf 2 (by omega)
           have hf3:=hf 3 (by omega)
           have hb0:=sQ i 0
           have hb1:=sQ i 1
           have hb2:=sQ i 2
           have hb3:=sQ i 3
           obtain ⟨z0,hz0⟩:∃ z:Int,(pp i 0:Int)=z:=⟨_,rfl⟩
           obtain ⟨z1,hz1⟩:∃ z:Int,(pp i 1:Int)=z:=⟨_,rfl⟩
           obtain ⟨z2,hz2⟩:∃ z:Int,(pp i 2:Int)=z:=⟨_,rfl⟩
           obtain ⟨z3,hz3⟩:∃ z:Int,(pp i 3:Int)=z:=⟨_,rfl⟩
           rw [hz0,hz1] at ht
           rw [hz2,hz3] at hu
           rw [hz0] at hf0
           rw [hz1] at hf1
           rw [hz2] at hf2
           rw [hz3] at hf3
           have HGE:=aD (show (0≤z0∧z0<6)∧(0≤z1∧z1<6)∧(0≤z2∧z2<6)∧0≤z3∧z3<6 by omega)
           have HT:=aD (show spec_CrossOf.f k2 (aI q z0).f0 (aI q z0).f1 (aI q z0).f2 (aI q z1).f0 (aI q z1).f1 (aI q z1).f2=some (t1,t2,t3) from ht)
           have HU:=aD (show spec_CrossOf.f k2 (aI q z2).f0 (aI q z2).f1 (aI q z2).f2 (aI q z3).f0 (aI q z3).f1 (aI q z3).f2=some (s1_,s2_,s3_) from hu)
           have HCR:=aD (show spec_CrossOf.f k2 t1 t2 t3 s1_ s2_ s3_=some (c1',c2_,c3_) from hc)
           have HOL:=aD hol
           have H':=aD H
           clear ht hu hc H hol hf hz0 hz1 hz2 hz3 hb0 hb1 hb2 hb3
           have hrd:=(Kd.R_reads' HQ.out).2.2
           obtain ⟨ad10,eA,hq0,hq1,hq2⟩:=dJ hrd z0 (by have:=HGE.out;omega) (by have:=HGE.out;have:=H6.out;omega)
           cases eA
           obtain ⟨ad11,eA,hq3,hq4,hq5⟩:=dJ hrd z1 (by have:=HGE.out;omega) (by have:=HGE.out;have:=H6.out;omega)
           cases eA
           obtain ⟨ad12,eA,hq6,hq7,hq8⟩:=dJ hrd z2 (by have:=HGE.out;omega) (by have:=HGE.out;have:=H6.out;omega)
           cases eA
           obtain ⟨ad13,eA,hq9,hq10,hq11⟩:=dJ hrd z3 (by have:=HGE.out;omega) (by have:=HGE.out;have:=H6.out;omega)
           cases eA
           have hl0:(0≤z0)=True:=eq_true (by have:=HGE.out;omega)
           have hu0:(z0<6)=True:=eq_true (by have:=HGE.out;omega)
           have hl1:(0≤z1)=True:=eq_true (by have:=HGE.out;omega)
           have hu1:(z1<6)=True:=eq_true (by have:=HGE.out;omega)
           have hl2:(0≤z2)=True:=eq_true (by have:=HGE.out;omega)
           have hu2:(z2<6)=True:=eq_true (by have:=HGE.out;omega)
           have hl3:(0≤z3)=True:=eq_true (by have:=HGE.out;omega)
           have hu3:(z3<6)=True:=eq_true (by have:=HGE.out;omega)
           clear hrd
           go_wp2_with fail
           refine dH (S:=fun w'=>Below wr.heap.size wr w') 21 wr.heap.size [(19,20)] (by kernel_rfl) (by kernel_rfl) (cB (Below.refl _ _)) (fun _ _ h1 h2=>h1.trans h2) (fun _ h1=>h1.size) ?_
           iterate 21 (first
            | (refine eH (v:=?_) (a':=?_) rfl rfl rfl rfl (by rfl) ?_ ?_ ?_;rotate_left 2;(· rintro w' hb';go_simp;with_reducible rfl);(· simp only [Act.put,List.setIfInBounds_toArray,List.set_cons_zero,List.set_cons_succ,aZ,bB];rfl))
            | (refine eH (v:=?_) (a':=?_) rfl rfl rfl rfl (by rfl) ?_ ?_ ?_;rotate_left 2;(· rintro w' hb';have s0:=aG hb' hft;have s1:=aG hb' hf0;have s2:=aG hb' hf1;have s3:=aG hb' hq0;have s4:=aG hb' hq1;have s5:=aG hb' hq2;have s6:=aG hb' hq3;have s7:=aG hb' hq4;have s8:=aG hb' hq5;go_simp;with_reducible rfl);(· simp only [Act.put,List.setIfInBounds_toArray,List.set_cons_zero,List.set_cons_succ,aZ,bB];rfl))
            | (refine fZ (a':=?_) (.agg #[.int .i64 t1,.int .i64 t2,.int .i64 t3]) rfl rfl Try.func82 rfl rfl rfl (by rfl) (by kernel_rfl) rfl #[.agg #[.int .i64 (aI q z0).f0,.int .i64 (aI q z0).f1,.int .i64 (aI q z0).f2],.agg #[.int .i64 (aI q z1).f0,.int .i64 (aI q z1).f1,.int .i64 (aI q z1).f2]] (by (try simp only [List.map_toArray,List.map_cons,List.map_nil]);rfl) ?_ ?_ ?_;rotate_left;(· rintro w' hb';with_reducible refine (aH k2 _ _ _ _ _ _ t1 t2 t3 _ HT.out).mono ?_;rintro e w1 ⟨rfl,hb1⟩;exact ⟨rfl,hb1⟩);(· simp only [Act.put,List.setIfInBounds_toArray,List.set_cons_zero,List.set_cons_succ,aZ,bB];rfl))
            | (refine lD #[.int .i64 0,.int .i64 0,.int .i64 0] 72 (some (20,#[.int .i64 t1,.int .i64 t2,.int .i64 t3])) rfl rfl rfl rfl (by rfl) ?_ ?_;(· rintro w' hb';first|(go_simp;done)|(go_simp;rfl)))
            | (refine lE 0 rfl rfl rfl rfl rfl rfl (fun g=>by rfl) ?_ ?_;(· rintro g w' hb' hg hn;have hs0:=(bJ hg 0).trans rfl;have hs1:=(bJ hg 1).trans rfl;have hs2:=(bJ hg 2).trans rfl;have hf0:=aC hg 0;have hf1:=aC hg 1;have hf2:=aC hg 2;refine ⟨_,?_,(gB hg _ _ _).1,(gB hg _ _ _).2⟩;first|(go_simp;done)|(go_simp;rfl))))
           refine fB ?_
           intro w5 hb5 g1 _ h1 _
           refine dD (by kernel_rfl) ?_
           have HG1:=aD h1
           have HB5:=aD (bZ HB.out (aM HB.out) hb5)
           have HO5:=aD (Kd.R_below HO.out hb5)
           have HQ5:=aD (Kd.R_below HQ.out hb5)
           have HP5:=aD (HP.out.to hb5.size (fun k_ _ hk_=>hb5.block k_ (by have:=HP.out.2;omega)))
           replace hft:=aG hb5 hft
           replace hf2:=aG hb5 hf2
           replace hf3:=aG hb5 hf3
           replace hq6:=aG hb5 hq6
           replace hq7:=aG hb5 hq7
           replace hq8:=aG hb5 hq8
           replace hq9:=aG hb5 hq9
           replace hq10:=aG hb5 hq10
           replace hq11:=aG hb5 hq11
           clear hb5 h1 HB HO HQ HP hf0 hf1 HT hq0 hq1 hq2 hq3 hq4 hq5
           go_wp2_with fail
           refine dH (S:=fun w'=>Below w5.heap.size w5 w') 21 w5.heap.size [(19,20)] (by kernel_rfl) (by kernel_rfl) (cB (Below.refl _ _)) (fun _ _ h1 h2=>h1.trans h2) (fun _ h1=>h1.size) ?_
           iterate 21 (first
            | (refine eH (v:=?_) (a':=?_) rfl rfl rfl rfl (by rfl) ?_ ?_ ?_;rotate_left 2;(· rintro w' hb';go_simp;with_reducible rfl);(· simp only [Act.put,List.setIfInBounds_toArray,List.set_cons_zero,List.set_cons_succ,aZ,bB];rfl))
            | (refine eH (v:=?_) (a':=?_) rfl rfl rfl rfl (by rfl) ?_ ?_ ?_;rotate_left 2;(· rintro w' hb';have s0:=aG hb' hft;have s1:=aG hb' hf2;have s2:=aG hb' hf3;have s3:=aG hb' hq6;have s4:=aG hb' hq7;have s5:=aG hb' hq8;have s6:=aG hb' hq9;have s7:=aG hb' hq10;have s8:=aG hb' hq11;go_simp;with_reducible rfl);(· simp only [Act.put,List.setIfInBounds_toArray,List.set_cons_zero,List.set_cons_succ,aZ,bB];rfl))
            | (refine fZ (a':=?_) (.agg #[.int .i64 s1_,.int .i64 s2_,.int .i64 s3_]) rfl rfl Try.func82 rfl rfl rfl (by rfl) (by kernel_rfl) rfl #[.agg #[.int .i64 (aI q z2).f0,.int .i64 (aI q z2).f1,.int .i64 (aI q z2).f2],.agg #[.int .i64 (aI q z3).f0,.int .i64 (aI q z3).f1,.int .i64 (aI q z3).f2]] (by (try simp only [List.map_toArray,List.map_cons,List.map_nil]);rfl) ?_ ?_ ?_;rotate_left;(· rintro w' hb';with_reducible refine (aH k2 _ _ _ _ _ _ s1_ s2_ s3_ _ HU.out).mono ?_;rintro e w1 ⟨rfl,hb1⟩;exact ⟨rfl,hb1⟩);(· simp only [Act.put,List.setIfInBounds_toArray,List.set_cons_zero,List.set_cons_succ,aZ,bB];rfl))
            | (refine lD #[.int .i64 0,.int .i64 0,.int .i64 0] 72 (some (20,#[.int .i64 s1_,.int .i64 s2_,.int .i64 s3_])) rfl rfl rfl rfl (by rfl) ?_ ?_;(· rintro w' hb';first|(go_simp;done)|(go_simp;rfl)))
            | (refine lE 0 rfl rfl rfl rfl rfl rfl (fun g=>by rfl) ?_ ?_;(· rintro g w' hb' hg hn;have hs0:=(bJ hg 0).trans rfl;have hs1:=(bJ hg 1).trans rfl;have hs2:=(bJ hg 2).trans rfl;have hf0:=aC hg 0;have hf1:=aC hg 1;have hf2:=aC hg 2;refine ⟨_,?_,(gB hg _ _ _).1,(gB hg _ _ _).2⟩;first|(go_simp;done)|(go_simp;rfl))))
           refine fB ?_
           intro w6 hb6 g2 _ h2 _
           refine dD (by kernel_rfl) ?_
           have HG1':=aD ((hb6.block g1 (Array.getElem?_eq_some_iff.1 HG1.out).1).trans HG1.out)
           have HG2:=aD h2
           have HB6:=aD (bZ HB5.out (aM HB5.out) hb6)
           have HO6:=aD (Kd.R_below HO5.out hb6)
           have HQ6:=aD (Kd.R_below HQ5.out hb6)
           have HP6:=aD (HP5.out.to hb6.size (fun k_ _ hk_=>hb6.block k_ (by have:=HP5.out.2;omega)))
           clear hb6 h2 HG1 HB5 HO5 HQ5 HP5 hft hf2 hf3 HU hq6 hq7 hq8 hq9 hq10 hq11 hl0 hl1 hl2 hl3 hu0 hu1 hu2 hu3
           have hg10:w6.cell? ⟨g1,0,none⟩=some (.int .i64 t1):=by simp [World.cell?,HG1'.out,cH]
           have hg11:w6.cell? ⟨g1,1,none⟩=some (.int .i64 t2):=by simp [World.cell?,HG1'.out,cH]
           have hg12:w6.cell? ⟨g1,2,none⟩=some (.int .i64 t3):=by simp [World.cell?,HG1'.out,cH]
           have hg20:w6.cell? ⟨g2,0,none⟩=some (.int .i64 s1_):=by simp [World.cell?,HG2.out,cH]
           have hg21:w6.cell? ⟨g2,1,none⟩=some (.int .i64 s2_):=by simp [World.cell?,HG2.out,cH]
           have hg22:w6.cell? ⟨g2,2,none⟩=some (.int .i64 s3_):=by simp [World.cell?,HG2.out,cH]
           go_wp2_with (first
            | (go_at_call 82;(with_reducible refine (aH k2 _ _ _ _ _ _ c1' c2_ c3_ _ HCR.out).mono ?_);rintro e w8 ⟨rfl,hb8⟩;have HB8:=aD (aE HB6.out hb8);have HO8:=aD (Kd.R_below HO6.out hb8);have HQ8:=aD (Kd.R_below HQ6.out hb8);have HP8:=aD (HP6.out.to hb8.size (fun k_ _ hk_=>hb8.block k_ (by have:=HP6.out.2;omega)));clear hb8 HB6 HO6 HQ6 HP6)
            | ((with_reducible refine fL (b:=.append) (xs:=#[.tmp 143,.tmp 147]) rfl ?_);at_builtin;refine Kd.R_append gG (w0:=w) w.heap.size rfl (.tmp 143) (.tmp 147) 65 72 (.agg #[(.int .i64 0),(.int .i64 0),(.int .i64 0)]) 24 rfl Try.underlying65 rW rfl (by decide) (by omega) u9 out (⟨c1',c2_,c3_⟩:rZ) [.int .i64 c1',.int .i64 c2_,.int .i64 c3_] (fun k_=>some k_≠(Value.slice (some ad0) 6 c1).ownBlock∧(k_<g∨g+4≤k_)) (fun _=>False) rfl rfl ?aP (fun _ hk=>hk.elim) ?aF HO8.out HB8.out (aM HB8.out) ?aL ?_;(case aP=>exact fM _ _ _ (⟨c1',c2_,c3_⟩:rZ));(case aF=>exact (fun k_ hk=>⟨fun e_=>by have h9:=((Kd.R_bound HQ8.out).1 k_ e_.symm).2.2.1;omega,.inr (by have:=HP8.out.2;omega)⟩));(case aL=>have:=HOL.out;omega);intro v9 w9 ho hb hg hat;have HB9:=aD hb;have HO9:=aD ho;have HQ9:=aD (Kd.R_grown2 HQ8.out rfl hg (fun k_ hk_=>(HO8.out.1 k_ hk_).1));have HP9:=aD (HP8.out.to hg.size (fun k_ hk1 hk2=>hg.block k_ (by have:=HP8.out.2;omega) (fun e_=>by have h9:=(HO8.out.1 k_ e_.symm).2;omega)));clear ho hb hg hat HB8 HO8 HQ8 HP8))
           go_roundg k2
           case measure=>have:=HK2.out;omega
           case rel=>exact ⟨out++[⟨c1',c2_,c3_⟩],i+1,by have e9:wrap64 ((i:Int)+1)=((i+1:Nat):Int):=(by unfold wrap64;omega);first|rfl|exact congrArg (Value.int IntTy.i64) e9|exact congrArg (Value.int IntTy.i64) ((aZ _).trans e9)|exact congrArg (Value.int IntTy.i64) (by omega),by omega,H',⟨by have:=HK2.out;omega⟩,HO9,HQ9,HP9,HB9⟩
          ·have hltz:¬ (i:Int)<3:=by omega
           rw [if_neg hlt] at H
           obtain ⟨rfl,rfl⟩:=Prod.mk.inj (Option.some.inj H)
           have HOZ:=aD (Kd.R_mono HO.out (ok':=fun _=>True) (fun _ _=>trivial))
           clear H HQ HO HP
           go_wp2
           go_ret2
           exact ⟨_,rfl,HOZ.out,HB.out⟩
end Go.Proofs.Ytldcckcljjlglaa.P

