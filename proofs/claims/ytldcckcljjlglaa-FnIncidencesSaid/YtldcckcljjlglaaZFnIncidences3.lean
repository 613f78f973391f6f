/- A part of the proof of FnIncidences: printed contracts and plain laws, joined by a program of this session. -/
import Derived.Test.YtldcckcljjlglaaZFnIncidences2
namespace Go.Proofs.Ytldcckcljjlglaa.P
open Go.RowKit Go.Proofs.YtldcckcljjlglaaW.PrintWords Go.Proofs.YtldcckcljjlglaaW.PrintLast Go.Proofs.YtldcckcljjlglaaW.PrintMore
attribute [local go_sem] max2_int min2_int max_two min_two max_three min_three max_four min_four
set_option linter.unusedVariables false
set_option linter.unusedSimpArgs false
/-! ### impl_isOnLine: function 129 -/
def impl_isOnLine.f (a0_0:Int) (a0_1:Int) (a0_2:Int) (a1_0:Int) (a1_1:Int):Option (Bool):=some ((wrap64 ((wrap64 ((wrap64 (a0_0*a1_0))+(wrap64 (a0_1*a1_1))))+a0_2))==0)
set_option maxHeartbeats 8000000 in
set_option maxRecDepth 100000 in
theorem cV (a0_0:Int) (a0_1:Int) (a0_2:Int) (a1_0:Int) (a1_1:Int) (r:Bool) (w:World) (h:impl_isOnLine.f a0_0 a0_1 a0_2 a1_0 a1_1=some r) :
  Calls Try.prog 129 #[.agg #[.int .i64 a0_0,.int .i64 a0_1,.int .i64 a0_2],.agg #[.int .i64 a1_0,.int .i64 a1_1]] w fun e w'=>e=.returned (.bool r)∧Below w.heap.size w w':=by
 have hu72:=Try.underlying72
 have hu80:=Try.underlying80
 have HB:=aD (Below.refl w.heap.size w)
 unfold impl_isOnLine.f at h
 have H:=h
 clear h
 obtain rfl:=Option.some.inj H
 go_enter Try.func129,Try.ntmps129
 go_wp2_with (first|((with_reducible refine aW (N:=2) rfl ?_);refine bS (N:=2) #[.int .i64 a0_0,.int .i64 a0_1,.int .i64 a0_2] 72 ?_;intro gb101 hg w3 hbox hb;have BK101:=aD (hbox);have GW101:=aD ((cZ HB hg));have GE101:=aD ((cZ HB hg));replace HB:=aD (aE (bM HB) hb);clear hb hbox hg)|((with_reducible refine aW (N:=3) rfl ?_);refine bS (N:=3) #[.int .i64 a1_0,.int .i64 a1_1] 80 ?_;intro gb102 hg w4 hbox hb;have BK102:=aD (hbox);have GW102:=aD ((cZ HB hg));have GE102:=aD ((cZ HB hg));replace HB:=aD (aE (bM HB) hb);have NB101_102:=aD ((bW BK101 hg));have NB102_101:=aD ((bX BK101 hg));replace BK101:=aD (aU BK101 hb);clear hb hbox hg;have hnb5:=NB101_102.out;have hnc5:=NB102_101.out;have hcz6_0:=aT BK101 0;have hcz6_1:=aT BK101 1;have hcz6_2:=aT BK101 2;have hfz6_0:=aC BK101.out 0;have hfz6_1:=aC BK101.out 1;have hfz6_2:=aC BK101.out 2;have hcz7_0:=aT BK102 0;have hcz7_1:=aT BK102 1;have hfz7_0:=aC BK102.out 0;have hfz7_1:=aC BK102.out 1))
 go_ret
 exact ⟨dA,bM HB⟩
/-! ### impl_PappusOf_1: function 131 -/
theorem kX {w w1:World} {p:Addr} {v:Value} (hb:Below w.heap.size w w1) (h:w.cell? p=some v):w1.cell? p=some v:=(hb.cell (World.block_lt_of_cell? _ _ h)).trans h
def pQ (t:Int×Int×Int) (p:dB):Bool:=(impl_isOnLine.f t.1 t.2.1 t.2.2 p.f0 p.f1).getD false
set_option maxHeartbeats 1000000 in
set_option maxRecDepth 100000 in
theorem wG (t1 t2 t3 u1 u2 u3 x y:Int) (B1 B2:Nat) (w:World) (h10:w.cell? ⟨B1,0,none⟩=some (.int .i64 t1)) (h11:w.cell? ⟨B1,1,none⟩=some (.int .i64 t2)) (h12:w.cell? ⟨B1,2,none⟩=some (.int .i64 t3)) (h20:w.cell? ⟨B2,0,none⟩=some (.int .i64 u1)) (h21:w.cell? ⟨B2,1,none⟩=some (.int .i64 u2)) (h22:w.cell? ⟨B2,2,none⟩=some (.int .i64 u3)) :
  Calls Try.prog 131 #[.agg #[.int .i64 x,.int .i64 y],.pointer (some ⟨B1,0,none⟩),.pointer (some ⟨B2,0,none⟩)] w fun e w'=>e=.returned (.bool (pQ (t1,t2,t3) ⟨x,y⟩&&pQ (u1,u2,u3) ⟨x,y⟩))∧Below w.heap.size w w':=by
 have hup:=Try.underlying80
 have hut:=Try.underlying72
 have HX:=aD (show impl_isOnLine.f t1 t2 t3 x y=some (pQ (t1,t2,t3) ⟨x,y⟩) from rfl)
 have HY:=aD (show impl_isOnLine.f u1 u2 u3 x y=some (pQ (u1,u2,u3) ⟨x,y⟩) from rfl)
 have k10:=kX (qH (Below.refl w.heap.size w) (.cells #[.int .i64 x,.int .i64 y] 80)) h10
 have k11:=kX (qH (Below.refl w.heap.size w) (.cells #[.int .i64 x,.int .i64 y] 80)) h11
 have k12:=kX (qH (Below.refl w.heap.size w) (.cells #[.int .i64 x,.int .i64 y] 80)) h12
 have k20:=kX (qH (Below.refl w.heap.size w) (.cells #[.int .i64 x,.int .i64 y] 80)) h20
 have k21:=kX (qH (Below.refl w.heap.size w) (.cells #[.int .i64 x,.int .i64 y] 80)) h21
 have k22:=kX (qH (Below.refl w.heap.size w) (.cells #[.int .i64 x,.int .i64 y] 80)) h22
 have k00:(w.alloc (.cells #[.int .i64 x,.int .i64 y] 80)).cell? ⟨w.heap.size,0,none⟩=some (.int .i64 x):=by simp
 have k01:(w.alloc (.cells #[.int .i64 x,.int .i64 y] 80)).cell? ⟨w.heap.size,1,none⟩=some (.int .i64 y):=by simp
 have HB:=aD (qH (Below.refl w.heap.size w) (.cells #[.int .i64 x,.int .i64 y] 80))
 clear h10 h11 h12 h20 h21 h22
 generalize pQ (u1,u2,u3) ⟨x,y⟩=b at HY ⊢
 generalize pQ (t1,t2,t3) ⟨x,y⟩=a at HX ⊢
 cases a with
 | false =>
  go_enter Try.func131,Try.ntmps131
  go_wp2_with (first|(go_at_call 129;(with_reducible refine (cV _ _ _ _ _ false _ HX.out).mono ?_);rintro e w1 ⟨rfl,hb1⟩))
  go_ret
  exact ⟨rfl,bZ HB.out (aM HB.out) hb1⟩
 | true =>
  go_enter Try.func131,Try.ntmps131
  go_wp2_with (first
   | (go_at_call 129;(with_reducible refine (cV _ _ _ _ _ true _ HX.out).mono ?_);rintro e w1 ⟨rfl,hb1⟩;have HB1:=aD (bZ HB.out (aM HB.out) hb1);have m20:=kX hb1 k20;have m21:=kX hb1 k21;have m22:=kX hb1 k22;have m00:=kX hb1 k00;have m01:=kX hb1 k01;clear hb1 k10 k11 k12 k20 k21 k22 k00 k01 HB)
   | (go_at_call 129;(with_reducible refine (cV _ _ _ _ _ _ _ HY.out).mono ?_);rintro e w2 ⟨rfl,hb2⟩))
  go_ret
  exact ⟨rfl,bZ HB1.out (aM HB1.out) hb2⟩
/-! ### impl_PappusOf: function 69 -/
def tJ (l:List dB) (i:Int):dB:=aA l i
def uC (k:Nat) (a b:dB):Option (Int×Int×Int):=impl_through.f k a.f0 a.f1 b.f0 b.f1
abbrev zR:=eV
def xF (k:Nat) (l0:List dB) (i j p q:Int):Option (Int×Int×Int):=(uC k (tJ l0 i) (tJ l0 j)).bind fun a=>(uC k (tJ l0 p) (tJ l0 q)).bind fun b=>impl_CrossOf.f k a.1 a.2.1 a.2.2 b.1 b.2.1 b.2.2
def trOf (t:Int×Int×Int):zR:=⟨t.1,t.2.1,t.2.2⟩
def impl_PappusOf.f (k:Nat) (l0:List dB):Option (List zR×Bool):=(impl_areSix.f k l0).bind fun b=>if b=true then (if l0.length=6 then (uC k (tJ l0 0) (tJ l0 1)).bind fun l=>(uC k (tJ l0 3) (tJ l0 4)).bind fun m=>(if pQ l (tJ l0 2)=true then (if pQ m (tJ l0 5)=true then (impl_areOneLine.f k l.1 l.2.1 l.2.2 m.1 m.2.1 m.2.2).bind fun z=>(if z=true then some ([],false) else if l0.any (fun p=>pQ l p&&pQ m p)=true then some ([],false) else (xF k l0 0 4 1 3).bind fun c1=>(xF k l0 0 5 2 3).bind fun c2=>(xF k l0 1 5 2 4).bind fun c3=>some ([trOf c1,trOf c2,trOf c3],true)) else some ([],false)) else some ([],false)) else none) else some ([],false)
set_option maxHeartbeats 8000000 in
set_option maxRecDepth 100000 in
theorem pR (k:Nat) (A0:Option Addr) (c0:Nat) (l0:List dB) (r1:List zR) (r2:Bool) (w:World) (hr0:Kd.C gA w A0 l0.length l0) (hc0:l0.length≤c0) (h:impl_PappusOf.f k l0=some (r1,r2)) :
  Calls Try.prog 69 #[.slice A0 l0.length c0] w fun e w'=>∃ v0_:Value,e=.returned (.tuple #[v0_,.bool r2])∧Kd.R gG 72 w' w.heap.size (fun _=>True) v0_ r1∧Below w.heap.size w w':=by
 have HR:=aD hr0
 have HC:=aD hc0
 have HB:=aD (Below.refl w.heap.size w)
 unfold impl_PappusOf.f at h
 obtain ⟨b,hb,h⟩:=iS h
 have HA1:=aD hb
 clear hr0 hc0 hb
 have hup:=Try.underlying80
 have hut:=Try.underlying72
 cases b with
 | false =>
  obtain ⟨rfl,rfl⟩:=Prod.mk.inj (Option.some.inj (show some (([]:List zR),false)=some (r1,r2) from h))
  clear h
  go_enter Try.func69,Try.ntmps69
  go_wp2_with (first|(go_at_call 128;(with_reducible refine (iB k A0 c0 l0 false _ (Kd.C_below HR.out HB.out) HC.out HA1.out).mono ?_);rintro e w1 ⟨rfl,hb1⟩;have m0_:=aD (aE HB.out hb1);clear HB;have HB:=m0_;clear m0_;clear hb1))
  go_ret2
  exact ⟨_,rfl,Kd.R_nil _ _ _ _ _,HB.out⟩
 | true =>
  rw [if_pos rfl] at h
  by_cases h6:l0.length=6
  case neg=>rw [if_neg h6] at h;cases h
  rw [if_pos h6] at h
  obtain ⟨⟨t1,t2,t3⟩,ht,h⟩:=iS h
  obtain ⟨⟨u1,u2,u3'⟩,hu,h⟩:=iS h
  have H6:=aD h6
  have HT:=aD (show impl_through.f k (aA l0 0).f0 (aA l0 0).f1 (aA l0 1).f0 (aA l0 1).f1=some (t1,t2,t3) from ht)
  have HU:=aD (show impl_through.f k (aA l0 3).f0 (aA l0 3).f1 (aA l0 4).f0 (aA l0 4).f1=some (u1,u2,u3') from hu)
  have HF:=aD h
  clear h6 ht hu h
  go_enter Try.func69,Try.ntmps69
  go_wp2_with (first|(go_at_call 128;(with_reducible refine (iB k A0 c0 l0 true _ (Kd.C_below HR.out HB.out) HC.out HA1.out).mono ?_);rintro e w1 ⟨rfl,hb1⟩;have m0_:=aD (aE HB.out hb1);clear HB;have HB:=m0_;clear m0_;clear hb1))
  rw [H6.out]
  obtain ⟨ad0,eA,hp0,hp1⟩:=cC (Kd.C_below HR.out HB.out) 0 (by omega) (by have:=H6.out;omega)
  subst eA
  obtain ⟨ad1,eA,hp2,hp3⟩:=cC (Kd.C_below HR.out HB.out) 1 (by omega) (by have:=H6.out;omega)
  cases eA
  obtain ⟨ad2,eA,hp4,hp5⟩:=cC (Kd.C_below HR.out HB.out) 2 (by omega) (by have:=H6.out;omega)
  cases eA
  obtain ⟨ad3,eA,hp6,hp7⟩:=cC (Kd.C_below HR.out HB.out) 3 (by omega) (by have:=H6.out;omega)
  cases eA
  obtain ⟨ad4,eA,hp8,hp9⟩:=cC (Kd.C_below HR.out HB.out) 4 (by omega) (by have:=H6.out;omega)
  cases eA
  obtain ⟨ad5,eA,hp10,hp11⟩:=cC (Kd.C_below HR.out HB.out) 5 (by omega) (by have:=H6.out;omega)
  cases eA
  simp only [Int.reduceToNat,Nat.reduceMul,Addr.add_zero'] at hp0 hp1
  simp only [Int.reduceToNat,Nat.reduceMul,Nat.reduceEqDiff,Nat.add_assoc,Nat.reduceAdd,Go.Addr.add,↓reduceIte] at hp2 hp3 hp4 hp5 hp6 hp7 hp8 hp9 hp10 hp11
  obtain ⟨x0,hx0⟩:∃ z:Int,(aA l0 0).f0=z:=⟨_,rfl⟩
  obtain ⟨y0,hy0⟩:∃ z:Int,(aA l0 0).f1=z:=⟨_,rfl⟩
  rw [hx0] at hp0
  rw [hy0] at hp1
  obtain ⟨x1,hx1⟩:∃ z:Int,(aA l0 1).f0=z:=⟨_,rfl⟩
  obtain ⟨y1,hy1⟩:∃ z:Int,(aA l0 1).f1=z:=⟨_,rfl⟩
  rw [hx1] at hp2
  rw [hy1] at hp3
  obtain ⟨x2,hx2⟩:∃ z:Int,(aA l0 2).f0=z:=⟨_,rfl⟩
  obtain ⟨y2,hy2⟩:∃ z:Int,(aA l0 2).f1=z:=⟨_,rfl⟩
  rw [hx2] at hp4
  rw [hy2] at hp5
  obtain ⟨x3,hx3⟩:∃ z:Int,(aA l0 3).f0=z:=⟨_,rfl⟩
  obtain ⟨y3,hy3⟩:∃ z:Int,(aA l0 3).f1=z:=⟨_,rfl⟩
  rw [hx3] at hp6
  rw [hy3] at hp7
  obtain ⟨x4,hx4⟩:∃ z:Int,(aA l0 4).f0=z:=⟨_,rfl⟩
  obtain ⟨y4,hy4⟩:∃ z:Int,(aA l0 4).f1=z:=⟨_,rfl⟩
  rw [hx4] at hp8
  rw [hy4] at hp9
  obtain ⟨x5,hx5⟩:∃ z:Int,(aA l0 5).f0=z:=⟨_,rfl⟩
  obtain ⟨y5,hy5⟩:∃ z:Int,(aA l0 5).f1=z:=⟨_,rfl⟩
  rw [hx5] at hp10
  rw [hy5] at hp11
  have HXY:=aD (⟨hx0,hy0,hx1,hy1,hx2,hy2,hx3,hy3,hx4,hy4,hx5,hy5⟩:(aA l0 0).f0=x0∧(aA l0 0).f1=y0∧(aA l0 1).f0=x1∧(aA l0 1).f1=y1∧(aA l0 2).f0=x2∧(aA l0 2).f1=y2∧(aA l0 3).f0=x3∧(aA l0 3).f1=y3∧(aA l0 4).f0=x4∧(aA l0 4).f1=y4∧(aA l0 5).f0=x5∧(aA l0 5).f1=y5)
  replace HT:=aD (show impl_through.f k x0 y0 x1 y1=some (t1,t2,t3) by rw [← hx0,← hy0,← hx1,← hy1];exact HT.out)
  replace HU:=aD (show impl_through.f k x3 y3 x4 y4=some (u1,u2,u3') by rw [← hx3,← hy3,← hx4,← hy4];exact HU.out)
  clear hx0 hy0 hx1 hy1 hx2 hy2 hx3 hy3 hx4 hy4 hx5 hy5
  refine dH (S:=fun w'=>Below w1.heap.size w1 w') 30 w1.heap.size [(18,24),(19,25),(20,26),(21,27),(22,28),(23,29)] (by kernel_rfl) (by kernel_rfl) (cB (Below.refl _ _)) (fun _ _ h1 h2=>h1.trans h2) (fun _ h1=>h1.size) ?_
  iterate 30 (first
   | (refine eH (v:=?_) (a':=?_) rfl rfl rfl rfl (by rfl) ?_ ?_ ?_;rotate_left 2;(· rintro w' hb';go_simp;with_reducible rfl);(· simp only [Act.put,List.setIfInBounds_toArray,List.set_cons_zero,List.set_cons_succ,aZ,bB];rfl))
   | (refine eH (v:=?_) (a':=?_) rfl rfl rfl rfl (by rfl) ?_ ?_ ?_;rotate_left 2;(· rintro w' hb';have s0:=aG hb' hp0;have s1:=aG hb' hp1;have s2:=aG hb' hp2;have s3:=aG hb' hp3;have s4:=aG hb' hp4;have s5:=aG hb' hp5;have s6:=aG hb' hp6;have s7:=aG hb' hp7;have s8:=aG hb' hp8;have s9:=aG hb' hp9;have s10:=aG hb' hp10;have s11:=aG hb' hp11;go_simp;with_reducible rfl);(· simp only [Act.put,List.setIfInBounds_toArray,List.set_cons_zero,List.set_cons_succ,aZ,bB];rfl))
   | (refine lD #[.int .i64 0,.int .i64 0] 80 (some (24,#[.int .i64 x0,.int .i64 y0])) rfl rfl rfl rfl (by rfl) ?_ ?_;(· rintro w' hb';first|(go_simp;done)|(go_simp;rfl)))
   | (refine lD #[.int .i64 0,.int .i64 0] 80 (some (25,#[.int .i64 x1,.int .i64 y1])) rfl rfl rfl rfl (by rfl) ?_ ?_;(· rintro w' hb';first|(go_simp;done)|(go_simp;rfl)))
   | (refine lD #[.int .i64 0,.int .i64 0] 80 (some (26,#[.int .i64 x2,.int .i64 y2])) rfl rfl rfl rfl (by rfl) ?_ ?_;(· rintro w' hb';first|(go_simp;done)|(go_simp;rfl)))
   | (refine lD #[.int .i64 0,.int .i64 0] 80 (some (27,#[.int .i64 x3,.int .i64 y3])) rfl rfl rfl rfl (by rfl) ?_ ?_;(· rintro w' hb';first|(go_simp;done)|(go_simp;rfl)))
   | (refine lD #[.int .i64 0,.int .i64 0] 80 (some (28,#[.int .i64 x4,.int .i64 y4])) rfl rfl rfl rfl (by rfl) ?_ ?_;(· rintro w' hb';first|(go_simp;done)|(go_simp;rfl)))
   | (refine lD #[.int .i64 0,.int .i64 0] 80 (some (29,#[.int .i64 x5,.int .i64 y5])) rfl rfl rfl rfl (by rfl) ?_ ?_;(· rintro w' hb';first|(go_simp;done)|(go_simp;rfl)))
   | (refine lE 0 rfl rfl rfl rfl rfl rfl (fun g=>by rfl) ?_ ?_;(· rintro g w' hb' hg hn;have hs0:=(bJ hg 0).trans rfl;have hs1:=(bJ hg 1).trans rfl;have hf0:=aC hg 0;have hf1:=aC hg 1;refine ⟨_,?_,(nU hg _ _).1,(nU hg _ _).2⟩;first|(go_simp;done)|(go_simp;rfl)))
   | (refine lE 1 rfl rfl rfl rfl rfl rfl (fun g=>by rfl) ?_ ?_;(· rintro g w' hb' hg hn;have hs0:=(bJ hg 0).trans rfl;have hs1:=(bJ hg 1).trans rfl;have hf0:=aC hg 0;have hf1:=aC hg 1;refine ⟨_,?_,(nU hg _ _).1,(nU hg _ _).2⟩;first|(go_simp;done)|(go_simp;rfl)))
   | (refine lE 2 rfl rfl rfl rfl rfl rfl (fun g=>by rfl) ?_ ?_;(· rintro g w' hb' hg hn;have hs0:=(bJ hg 0).trans rfl;have hs1:=(bJ hg 1).trans rfl;have hf0:=aC hg 0;have hf1:=aC hg 1;refine ⟨_,?_,(nU hg _ _).1,(nU hg _ _).2⟩;first|(go_simp;done)|(go_simp;rfl)))
   | (refine lE 3 rfl rfl rfl rfl rfl rfl (fun g=>by rfl) ?_ ?_;(· rintro g w' hb' hg hn;have hs0:=(bJ hg 0).trans rfl;have hs1:=(bJ hg 1).trans rfl;have hf0:=aC hg 0;have hf1:=aC hg 1;refine ⟨_,?_,(nU hg _ _).1,(nU hg _ _).2⟩;first|(go_simp;done)|(go_simp;rfl)))
   | (refine lE 4 rfl rfl rfl rfl rfl rfl (fun g=>by rfl) ?_ ?_;(· rintro g w' hb' hg hn;have hs0:=(bJ hg 0).trans rfl;have hs1:=(bJ hg 1).trans rfl;have hf0:=aC hg 0;have hf1:=aC hg 1;refine ⟨_,?_,(nU hg _ _).1,(nU hg _ _).2⟩;first|(go_simp;done)|(go_simp;rfl)))
   | (refine lE 5 rfl rfl rfl rfl rfl rfl (fun g=>by rfl) ?_ ?_;(· rintro g w' hb' hg hn;have hs0:=(bJ hg 0).trans rfl;have hs1:=(bJ hg 1).trans rfl;have hf0:=aC hg 0;have hf1:=aC hg 1;refine ⟨_,?_,(nU hg _ _).1,(nU hg _ _).2⟩;first|(go_simp;done)|(go_simp;rfl))))
  refine fB ?_
  intro w5 hb5 g0 _ h0 _ g1 _ h1 _ g2 _ h2 _ g3 _ h3 _ g4 _ h4 _ g5 _ h5 _
  refine dD (by kernel_rfl) ?_
  have kk00:w5.cell? ⟨g0,0,none⟩=some (.int .i64 x0):=by simp [World.cell?,h0,cH]
  have kk01:w5.cell? ⟨g0,1,none⟩=some (.int .i64 y0):=by simp [World.cell?,h0,cH]
  have kk10:w5.cell? ⟨g1,0,none⟩=some (.int .i64 x1):=by simp [World.cell?,h1,cH]
  have kk11:w5.cell? ⟨g1,1,none⟩=some (.int .i64 y1):=by simp [World.cell?,h1,cH]
  have kk20:w5.cell? ⟨g2,0,none⟩=some (.int .i64 x2):=by simp [World.cell?,h2,cH]
  have kk21:w5.cell? ⟨g2,1,none⟩=some (.int .i64 y2):=by simp [World.cell?,h2,cH]
  have kk30:w5.cell? ⟨g3,0,none⟩=some (.int .i64 x3):=by simp [World.cell?,h3,cH]
  have kk31:w5.cell? ⟨g3,1,none⟩=some (.int .i64 y3):=by simp [World.cell?,h3,cH]
  have kk40:w5.cell? ⟨g4,0,none⟩=some (.int .i64 x4):=by simp [World.cell?,h4,cH]
  have kk41:w5.cell? ⟨g4,1,none⟩=some (.int .i64 y4):=by simp [World.cell?,h4,cH]
  have kk50:w5.cell? ⟨g5,0,none⟩=some (.int .i64 x5):=by simp [World.cell?,h5,cH]
  have kk51:w5.cell? ⟨g5,1,none⟩=some (.int .i64 y5):=by simp [World.cell?,h5,cH]
  have m0_:=aD (bZ HB.out (aM HB.out) hb5)
  clear HB hb5 h0 h1 h2 h3 h4 h5 hp0 hp1 hp2 hp3 hp4 hp5 hp6 hp7 hp8 hp9 hp10 hp11
  have HB:=m0_
  clear m0_
  go_wp2_with fail
  refine dH (S:=fun w'=>Below w5.heap.size w5 w') 10 w5.heap.size [(6,8),(7,9)] (by kernel_rfl) (by kernel_rfl) (cB (Below.refl _ _)) (fun _ _ h1 h2=>h1.trans h2) (fun _ h1=>h1.size) ?_
  iterate 10 (first
   | (refine eH (v:=?_) (a':=?_) rfl rfl rfl rfl (by rfl) ?_ ?_ ?_;rotate_left 2;(· rintro w' hb';go_simp;with_reducible rfl);(· simp only [Act.put,List.setIfInBounds_toArray,List.set_cons_zero,List.set_cons_succ,aZ,bB];rfl))
   | (refine eH (v:=?_) (a':=?_) rfl rfl rfl rfl (by rfl) ?_ ?_ ?_;rotate_left 2;(· rintro w' hb';have s0:=aG hb' kk00;have s1:=aG hb' kk01;have s2:=aG hb' kk10;have s3:=aG hb' kk11;have s4:=aG hb' kk20;have s5:=aG hb' kk21;have s6:=aG hb' kk30;have s7:=aG hb' kk31;have s8:=aG hb' kk40;have s9:=aG hb' kk41;have s10:=aG hb' kk50;have s11:=aG hb' kk51;go_simp;with_reducible rfl);(· simp only [Act.put,List.setIfInBounds_toArray,List.set_cons_zero,List.set_cons_succ,aZ,bB];rfl))
   | (refine fZ (a':=?_) (.agg #[.int .i64 t1,.int .i64 t2,.int .i64 t3]) rfl rfl Try.func125 rfl rfl rfl (by rfl) (by kernel_rfl) rfl #[.agg #[.int .i64 x0,.int .i64 y0],.agg #[.int .i64 x1,.int .i64 y1]] (by (try simp only [List.map_toArray,List.map_cons,List.map_nil]);rfl) ?_ ?_ ?_;rotate_left;(· rintro w' hb';with_reducible refine (cT k _ _ _ _ t1 t2 t3 _ HT.out).mono ?_;rintro e w1 ⟨rfl,hb1⟩;exact ⟨rfl,hb1⟩);(· simp only [Act.put,List.setIfInBounds_toArray,List.set_cons_zero,List.set_cons_succ,aZ,bB];rfl))
   | (refine fZ (a':=?_) (.agg #[.int .i64 u1,.int .i64 u2,.int .i64 u3']) rfl rfl Try.func125 rfl rfl rfl (by rfl) (by kernel_rfl) rfl #[.agg #[.int .i64 x3,.int .i64 y3],.agg #[.int .i64 x4,.int .i64 y4]] (by (try simp only [List.map_toArray,List.map_cons,List.map_nil]);rfl) ?_ ?_ ?_;rotate_left;(· rintro w' hb';with_reducible refine (cT k _ _ _ _ u1 u2 u3' _ HU.out).mono ?_;rintro e w1 ⟨rfl,hb1⟩;exact ⟨rfl,hb1⟩);(· simp only [Act.put,List.setIfInBounds_toArray,List.set_cons_zero,List.set_cons_succ,aZ,bB];rfl))
   | (refine lD #[.int .i64 0,.int .i64 0,.int .i64 0] 72 (some (8,#[.int .i64 t1,.int .i64 t2,.int .i64 t3])) rfl rfl rfl rfl (by rfl) ?_ ?_;(· rintro w' hb';first|(go_simp;done)|(go_simp;rfl)))
   | (refine lD #[.int .i64 0,.int .i64 0,.int .i64 0] 72 (some (9,#[.int .i64 u1,.int .i64 u2,.int .i64 u3'])) rfl rfl rfl rfl (by rfl) ?_ ?_;(· rintro w' hb';first|(go_simp;done)|(go_simp;rfl)))
   | (refine lE 0 rfl rfl rfl rfl rfl rfl (fun g=>by rfl) ?_ ?_;(· rintro g w' hb' hg hn;have hs0:=(bJ hg 0).trans rfl;have hs1:=(bJ hg 1).trans rfl;have hs2:=(bJ hg 2).trans rfl;have hf0:=aC hg 0;have hf1:=aC hg 1;have hf2:=aC hg 2;refine ⟨_,?_,(gB hg _ _ _).1,(gB hg _ _ _).2⟩;first|(go_simp;done)|(go_simp;rfl)))
   | (refine lE 1 rfl rfl rfl rfl rfl rfl (fun g=>by rfl) ?_ ?_;(· rintro g w' hb' hg hn;have hs0:=(bJ hg 0).trans rfl;have hs1:=(bJ hg 1).trans rfl;have hs2:=(bJ hg 2).trans rfl;have hf0:=aC hg 0;have hf1:=aC hg 1;have hf2:=aC hg 2;refine ⟨_,?_,(gB hg _ _ _).1,(gB hg _ _ _).2⟩;first|(go_simp;done)|(go_simp;rfl))))
  refine fB ?_
  intro w6 hb6 g6 _ h6 _ g7 _ h7 _
  refine dD (by kernel_rfl) ?_
  have kk60:w6.cell? ⟨g6,0,none⟩=some (.int .i64 t1):=by simp [World.cell?,h6,cH]
  have kk61:w6.cell? ⟨g6,1,none⟩=some (.int .i64 t2):=by simp [World.cell?,h6,cH]
  have kk62:w6.cell? ⟨g6,2,none⟩=some (.int .i64 t3):=by simp [World.cell?,h6,cH]
  have kk70:w6.cell? ⟨g7,0,none⟩=some (.int .i64 u1):=by simp [World.cell?,h7,cH]
  have kk71:w6.cell? ⟨g7,1,none⟩=some (.int .i64 u2):=by simp [World.cell?,h7,cH]
  have kk72:w6.cell? ⟨g7,2,none⟩=some (.int .i64 u3'):=by simp [World.cell?,h7,cH]
  replace kk00:=aG hb6 kk00
  replace kk01:=aG hb6 kk01
  replace kk10:=aG hb6 kk10
  replace kk11:=aG hb6 kk11
  replace kk20:=aG hb6 kk20
  replace kk21:=aG hb6 kk21
  replace kk30:=aG hb6 kk30
  replace kk31:=aG hb6 kk31
  replace kk40:=aG hb6 kk40
  replace kk41:=aG hb6 kk41
  replace kk50:=aG hb6 kk50
  replace kk51:=aG hb6 kk51
  have m0_:=aD (bZ HB.out (aM HB.out) hb6)
  clear HB hb6 h6 h7 HT HU
  have HB:=m0_
  clear m0_
  have eg:∀ (args:Array Value) (w:World),(callFunc 131 args).run Try.prog w=.ok (.enter 131 args) w:=enters_of Try.func131 (by kernel_rfl) rfl
  have HCF:=aD (show ∀ W:World,Below w6.heap.size w6 W→Calls Try.prog 130 #[.slice (some ad0) 6 c0,.func (.func 131) #[] #[.pointer (some ⟨g6,0,none⟩),.pointer (some ⟨g7,0,none⟩)]] W fun e w'=>e=.returned (.bool (l0.any (fun p=>pQ (t1,t2,t3) p&&pQ (u1,u2,u3') p)))∧Below W.heap.size W w' by
   intro W hW
   have hc:=kM 131 #[.pointer (some ⟨g6,0,none⟩),.pointer (some ⟨g7,0,none⟩)] eg (fun p=>pQ (t1,t2,t3) p&&pQ (u1,u2,u3') p) (some ad0) c0 l0 W (Kd.C_below (Kd.C_below HR.out HB.out) hW) HC.out (fun W2 p hb=>wG t1 t2 t3 u1 u2 u3' p.f0 p.f1 g6 g7 W2 (aG hb (aG hW kk60)) (aG hb (aG hW kk61)) (aG hb (aG hW kk62)) (aG hb (aG hW kk70)) (aG hb (aG hW kk71)) (aG hb (aG hW kk72)))
   rwa [H6.out] at hc)
  have HB6:=aD (Below.refl w6.heap.size w6)
  have HIL:=aD (show w.heap.size≤w6.heap.size from aM HB.out)
  have h:=HF.out
  rw [show tJ l0 2=⟨x2,y2⟩ by have:=HXY.out;unfold tJ;rw [← this.2.2.2.2.1,← this.2.2.2.2.2.1],show tJ l0 5=⟨x5,y5⟩ by have:=HXY.out;unfold tJ;rw [← this.2.2.2.2.2.2.2.2.2.2.1,← this.2.2.2.2.2.2.2.2.2.2.2]] at h
  have HF2:=aD h
  clear h HF eg
  obtain ⟨xa,hxa⟩:∃ b:Bool,pQ (t1,t2,t3) ⟨x2,y2⟩=b:=⟨_,rfl⟩
  obtain ⟨xb,hxb⟩:∃ b:Bool,pQ (u1,u2,u3') ⟨x5,y5⟩=b:=⟨_,rfl⟩
  have HL1:=aD (show impl_isOnLine.f t1 t2 t3 x2 y2=some xa from hxa ▸ rfl)
  have HL2:=aD (show impl_isOnLine.f u1 u2 u3' x5 y5=some xb from hxb ▸ rfl)
  have h:=HF2.out
  rw [hxa,hxb] at h
  have HF:=aD h
  clear h HF2 hxa hxb
  cases xa with
  | false =>
   have h:=HF.out
   rw [if_neg (by decide)] at h
   obtain ⟨rfl,rfl⟩:=Prod.mk.inj (Option.some.inj (show some (([]:List zR),false)=some (r1,r2) from h))
   clear h HF
   go_wp2_with (first
    | (go_at_call 129;(with_reducible refine (cV _ _ _ _ _ false _ HL1.out).mono ?_);rintro e w9 ⟨rfl,hb9⟩;have m0_:=aD (aE HB6.out hb9);clear HB6;have HB6:=m0_;clear m0_;have n_:=aG hb9 kk00;clear kk00;have kk00:=n_;clear n_;have n_:=aG hb9 kk01;clear kk01;have kk01:=n_;clear n_;have n_:=aG hb9 kk10;clear kk10;have kk10:=n_;clear n_;have n_:=aG hb9 kk11;clear kk11;have kk11:=n_;clear n_;have n_:=aG hb9 kk20;clear kk20;have kk20:=n_;clear n_;have n_:=aG hb9 kk21;clear kk21;have kk21:=n_;clear n_;have n_:=aG hb9 kk30;clear kk30;have kk30:=n_;clear n_;have n_:=aG hb9 kk31;clear kk31;have kk31:=n_;clear n_;have n_:=aG hb9 kk40;clear kk40;have kk40:=n_;clear n_;have n_:=aG hb9 kk41;clear kk41;have kk41:=n_;clear n_;have n_:=aG hb9 kk50;clear kk50;have kk50:=n_;clear n_;have n_:=aG hb9 kk51;clear kk51;have kk51:=n_;clear n_;have n_:=aG hb9 kk60;clear kk60;have kk60:=n_;clear n_;have n_:=aG hb9 kk61;clear kk61;have kk61:=n_;clear n_;have n_:=aG hb9 kk62;clear kk62;have kk62:=n_;clear n_;have n_:=aG hb9 kk70;clear kk70;have kk70:=n_;clear n_;have n_:=aG hb9 kk71;clear kk71;have kk71:=n_;clear n_;have n_:=aG hb9 kk72;clear kk72;have kk72:=n_;clear n_;clear hb9))
   go_ret2
   exact ⟨_,rfl,Kd.R_nil _ _ _ _ _,bZ HB.out HIL.out HB6.out⟩
  | true =>
   have h:=HF.out
   rw [if_pos rfl] at h
   clear HF
   cases xb with
   | false =>
    rw [if_neg (by decide)] at h
    obtain ⟨rfl,rfl⟩:=Prod.mk.inj (Option.some.inj (show some (([]:List zR),false)=some (r1,r2) from h))
    clear h
    go_wp2_with (first
     | (go_at_call 129;(with_reducible refine (cV _ _ _ _ _ true _ HL1.out).mono ?_);rintro e w9 ⟨rfl,hb9⟩;have m0_:=aD (aE HB6.out hb9);clear HB6;have HB6:=m0_;clear m0_;have n_:=aG hb9 kk00;clear kk00;have kk00:=n_;clear n_;have n_:=aG hb9 kk01;clear kk01;have kk01:=n_;clear n_;have n_:=aG hb9 kk10;clear kk10;have kk10:=n_;clear n_;have n_:=aG hb9 kk11;clear kk11;have kk11:=n_;clear n_;have n_:=aG hb9 kk20;clear kk20;have kk20:=n_;clear n_;have n_:=aG hb9 kk21;clear kk21;have kk21:=n_;clear n_;have n_:=aG hb9 kk30;clear kk30;have kk30:=n_;clear n_;have n_:=aG hb9 kk31;clear kk31;have kk31:=n_;clear n_;have n_:=aG hb9 kk40;clear kk40;have kk40:=n_;clear n_;have n_:=aG hb9 kk41;clear kk41;have kk41:=n_;clear n_;have n_:=aG hb9 kk50;clear kk50;have kk50:=n_;clear n_;have n_:=aG hb9 kk51;clear kk51;have kk51:=n_;clear n_;have n_:=aG hb9 kk60;clear kk60;have kk60:=n_;clear n_;have n_:=aG hb9 kk61;clear kk61;have kk61:=n_;clear n_;have n_:=aG hb9 kk62;clear kk62;have kk62:=n_;clear n_;have n_:=aG hb9 kk70;clear kk70;have kk70:=n_;clear n_;have n_:=aG hb9 kk71;clear kk71;have kk71:=n_;clear n_;have n_:=aG hb9 kk72;clear kk72;have kk72:=n_;clear n_;clear hb9)
     | (go_at_call 129;(with_reducible refine (cV _ _ _ _ _ false _ HL2.out).mono ?_);rintro e w9 ⟨rfl,hb9⟩;have m0_:=aD (aE HB6.out hb9);clear HB6;have HB6:=m0_;clear m0_;have n_:=aG hb9 kk00;clear kk00;have kk00:=n_;clear n_;have n_:=aG hb9 kk01;clear kk01;have kk01:=n_;clear n_;have n_:=aG hb9 kk10;clear kk10;have kk10:=n_;clear n_;have n_:=aG hb9 kk11;clear kk11;have kk11:=n_;clear n_;have n_:=aG hb9 kk20;clear kk20;have kk20:=n_;clear n_;have n_:=aG hb9 kk21;clear kk21;have kk21:=n_;clear n_;have n_:=aG hb9 kk30;clear kk30;have kk30:=n_;clear n_;have n_:=aG hb9 kk31;clear kk31;have kk31:=n_;clear n_;have n_:=aG hb9 kk40;clear kk40;have kk40:=n_;clear n_;have n_:=aG hb9 kk41;clear kk41;have kk41:=n_;clear n_;have n_:=aG hb9 kk50;clear kk50;have kk50:=n_;clear n_;have n_:=aG hb9 kk51;clear kk51;have kk51:=n_;clear n_;have n_:=aG hb9 kk60;clear kk60;have kk60:=n_;clear n_;have n_:=aG hb9 kk61;clear kk61;have kk61:=n_;clear n_;have n_:=aG hb9 kk62;clear kk62;have kk62:=n_;clear n_;have n_:=aG hb9 kk70;clear kk70;have kk70:=n_;clear n_;have n_:=aG hb9 kk71;clear kk71;have kk71:=n_;clear n_;have n_:=aG hb9 kk72;clear kk72;have kk72:=n_;clear n_;clear hb9))
    go_ret2
    exact ⟨_,rfl,Kd.R_nil _ _ _ _ _,bZ HB.out HIL.out HB6.out⟩
   | true =>
    rw [if_pos rfl] at h
    obtain ⟨z,hz,h⟩:=iS h
    have HEQ:=aD (show impl_areOneLine.f k t1 t2 t3 u1 u2 u3'=some z from hz)
    clear hz
    cases z with
    | true =>
     rw [if_pos rfl] at h
     obtain ⟨rfl,rfl⟩:=Prod.mk.inj (Option.some.inj (show some (([]:List zR),false)=some (r1,r2) from h))
     clear h
     go_wp2_with (first
      | (go_at_call 129;(with_reducible refine (cV _ _ _ _ _ true _ HL1.out).mono ?_);rintro e w9 ⟨rfl,hb9⟩;have m0_:=aD (aE HB6.out hb9);clear HB6;have HB6:=m0_;clear m0_;have n_:=aG hb9 kk00;clear kk00;have kk00:=n_;clear n_;have n_:=aG hb9 kk01;clear kk01;have kk01:=n_;clear n_;have n_:=aG hb9 kk10;clear kk10;have kk10:=n_;clear n_;have n_:=aG hb9 kk11;clear kk11;have kk11:=n_;clear n_;have n_:=aG hb9 kk20;clear kk20;have kk20:=n_;clear n_;have n_:=aG hb9 kk21;clear kk21;have kk21:=n_;clear n_;have n_:=aG hb9 kk30;clear kk30;have kk30:=n_;clear n_;have n_:=aG hb9 kk31;clear kk31;have kk31:=n_;clear n_;have n_:=aG hb9 kk40;clear kk40;have kk40:=n_;clear n_;have n_:=aG hb9 kk41;clear kk41;have kk41:=n_;clear n_;have n_:=aG hb9 kk50;clear kk50;have kk50:=n_;clear n_;have n_:=aG hb9 kk51;clear kk51;have kk51:=n_;clear n_;have n_:=aG hb9 kk60;clear kk60;have kk60:=n_;clear n_;have n_:=aG hb9 kk61;clear kk61;have kk61:=n_;clear n_;have n_:=aG hb9 kk62;clear kk62;have kk62:=n_;clear n_;have n_:=aG hb9 kk70;clear kk70;have kk70:=n_;clear n_;have n_:=aG hb9 kk71;clear kk71;have kk71:=n_;clear n_;have n_:=aG hb9 kk72;clear kk72;have kk72:=n_;clear n_;clear hb9)
      | (go_at_call 129;(with_reducible refine (cV _ _ _ _ _ true _ HL2.out).mono ?_);rintro e w9 ⟨rfl,hb9⟩;have m0_:=aD (aE HB6.out hb9);clear HB6;have HB6:=m0_;clear m0_;have n_:=aG hb9 kk00;clear kk00;have kk00:=n_;clear n_;have n_:=aG hb9 kk01;clear kk01;have kk01:=n_;clear n_;have n_:=aG hb9 kk10;clear kk10;have kk10:=n_;clear n_;have n_:=aG hb9 kk11;clear kk11;have kk11:=n_;clear n_;have n_:=aG hb9 kk20;clear kk20;have kk20:=n_;clear n_;have n_:=aG hb9 kk21;clear kk21;have kk21:=n_;clear n_;have n_:=aG hb9 kk30;clear kk30;have kk30:=n_;clear n_;have n_:=aG hb9 kk31;clear kk31;have kk31:=n_;clear n_;have n_:=aG hb9 kk40;clear kk40;have kk40:=n_;clear n_;have n_:=aG hb9 kk41;clear kk41;have kk41:=n_;clear n_;have n_:=aG hb9 kk50;clear kk50;have kk50:=n_;clear n_;have n_:=aG hb9 kk51;clear kk51;have kk51:=n_;clear n_;have n_:=aG hb9 kk60;clear kk60;have kk60:=n_;clear n_;have n_:=aG hb9 kk61;clear kk61;have kk61:=n_;clear n_;have n_:=aG hb9 kk62;clear kk62;have kk62:=n_;clear n_;have n_:=aG hb9 kk70;clear kk70;have kk70:=n_;clear n_;have n_:=aG hb9 kk71;clear kk71;have kk71:=n_;clear n_;have n_:=aG hb9 kk72;clear kk72;have kk72:=n_;clear n_;clear hb9)
      | (go_at_call 126;(with_reducible refine (bY k _ _ _ _ _ _ true _ HEQ.out).mono ?_);rintro e w9 ⟨rfl,hb9⟩;have m0_:=aD (aE HB6.out hb9);clear HB6;have HB6:=m0_;clear m0_;have n_:=aG hb9 kk00;clear kk00;have kk00:=n_;clear n_;have n_:=aG hb9 kk01;clear kk01;have kk01:=n_;clear n_;have n_:=aG hb9 kk10;clear kk10;have kk10:=n_;clear n_;have n_:=aG hb9 kk11;clear kk11;have kk11:=n_;clear n_;have n_:=aG hb9 kk20;clear kk20;have kk20:=n_;clear n_;have n_:=aG hb9 kk21;clear kk21;have kk21:=n_;clear n_;have n_:=aG hb9 kk30;clear kk30;have kk30:=n_;clear n_;have n_:=aG hb9 kk31;clear kk31;have kk31:=n_;clear n_;have n_:=aG hb9 kk40;clear kk40;have kk40:=n_;clear n_;have n_:=aG hb9 kk41;clear kk41;have kk41:=n_;clear n_;have n_:=aG hb9 kk50;clear kk50;have kk50:=n_;clear n_;have n_:=aG hb9 kk51;clear kk51;have kk51:=n_;clear n_;have n_:=aG hb9 kk60;clear kk60;have kk60:=n_;clear n_;have n_:=aG hb9 kk61;clear kk61;have kk61:=n_;clear n_;have n_:=aG hb9 kk62;clear kk62;have kk62:=n_;clear n_;have n_:=aG hb9 kk70;clear kk70;have kk70:=n_;clear n_;have n_:=aG hb9 kk71;clear kk71;have kk71:=n_;clear n_;have n_:=aG hb9 kk72;clear kk72;have kk72:=n_;clear n_;clear hb9))
     go_ret2
     exact ⟨_,rfl,Kd.R_nil _ _ _ _ _,bZ HB.out HIL.out HB6.out⟩
    | false =>
     rw [if_neg (by decide)] at h
     cases hany:l0.any (fun p=>pQ (t1,t2,t3) p&&pQ (u1,u2,u3') p) with
     | true =>
      rw [hany,if_pos rfl] at h
      have HANY:=aD hany
      obtain ⟨rfl,rfl⟩:=Prod.mk.inj (Option.some.inj (show some (([]:List zR),false)=some (r1,r2) from h))
      clear h hany
      go_wp2_with (first
       | (go_at_call 129;(with_reducible refine (cV _ _ _ _ _ true _ HL1.out).mono ?_);rintro e w9 ⟨rfl,hb9⟩;have m0_:=aD (aE HB6.out hb9);clear HB6;have HB6:=m0_;clear m0_;have n_:=aG hb9 kk00;clear kk00;have kk00:=n_;clear n_;have n_:=aG hb9 kk01;clear kk01;have kk01:=n_;clear n_;have n_:=aG hb9 kk10;clear kk10;have kk10:=n_;clear n_;have n_:=aG hb9 kk11;clear kk11;have kk11:=n_;clear n_;have n_:=aG hb9 kk20;clear kk20;have kk20:=n_;clear n_;have n_:=aG hb9 kk21;clear kk21;have kk21:=n_;clear n_;have n_:=aG hb9 kk30;clear kk30;have kk30:=n_;clear n_;have n_:=aG hb9 kk31;clear kk31;have kk31:=n_;clear n_;have n_:=aG hb9 kk40;clear kk40;have kk40:=n_;clear n_;have n_:=aG hb9 kk41;clear kk41;have kk41:=n_;clear n_;have n_:=aG hb9 kk50;clear kk50;have kk50:=n_;clear n_;have n_:=aG hb9 kk51;clear kk51;have kk51:=n_;clear n_;have n_:=aG hb9 kk60;clear kk60;have kk60:=n_;clear n_;have n_:=aG hb9 kk61;clear kk61;have kk61:=n_;clear n_;have n_:=aG hb9 kk62;clear kk62;have kk62:=n_;clear n_;have n_:=aG hb9 kk70;clear kk70;have kk70:=n_;clear n_;have n_:=aG hb9 kk71;clear kk71;have kk71:=n_;clear n_;have n_:=aG hb9 kk72;clear kk72;have kk72:=n_;clear n_;clear hb9)
       | (go_at_call 129;(with_reducible refine (cV _ _ _ _ _ true _ HL2.out).mono ?_);rintro e w9 ⟨rfl,hb9⟩;have m0_:=aD (aE HB6.out hb9);clear HB6;have HB6:=m0_;clear m0_;have n_:=aG hb9 kk00;clear kk00;have kk00:=n_;clear n_;have n_:=aG hb9 kk01;clear kk01;have kk01:=n_;clear n_;have n_:=aG hb9 kk10;clear kk10;have kk10:=n_;clear n_;have n_:=aG hb9 kk11;clear kk11;have kk11:=n_;clear n_;have n_:=aG hb9 kk20;clear kk20;have kk20:=n_;clear n_;have n_:=aG hb9 kk21;clear kk21;have kk21:=n_;clear n_;have n_:=aG hb9 kk30;clear kk30;have kk30:=n_;clear n_;have n_:=aG hb9 kk31;clear kk31;have kk31:=n_;clear n_;have n_:=aG hb9 kk40;clear kk40;have kk40:=n_;clear n_;have n_:=aG hb9 kk41;clear kk41;have kk41:=n_;clear n_;have n_:=aG hb9 kk50;clear kk50;have kk50:=n_;clear n_;have n_:=aG hb9 kk51;clear kk51;have kk51:=n_;clear n_;have n_:=aG hb9 kk60;clear kk60;have kk60:=n_;clear n_;have n_:=aG hb9 kk61;clear kk61;have kk61:=n_;clear n_;have n_:=aG hb9 kk62;clear kk62;have kk62:=n_;clear n_;have n_:=aG hb9 kk70;clear kk70;have kk70:=n_;clear n_;have n_:=aG hb9 kk71;clear kk71;have kk71:=n_;clear n_;have n_:=aG hb9 kk72;clear kk72;have kk72:=n_;clear n_;clear hb9)
       | (go_at_call 126;(with_reducible refine (bY k _ _ _ _ _ _ false _ HEQ.out).mono ?_);rintro e w9 ⟨rfl,hb9⟩;have m0_:=aD (aE HB6.out hb9);clear HB6;have HB6:=m0_;clear m0_;have n_:=aG hb9 kk00;clear kk00;have kk00:=n_;clear n_;have n_:=aG hb9 kk01;clear kk01;have kk01:=n_;clear n_;have n_:=aG hb9 kk10;clear kk10;have kk10:=n_;clear n_;have n_:=aG hb9 kk11;clear kk11;have kk11:=n_;clear n_;have n_:=aG hb9 kk20;clear kk20;have kk20:=n_;clear n_;have n_:=aG hb9 kk21;clear kk21;have kk21:=n_;clear n_;have n_:=aG hb9 kk30;clear kk30;have kk30:=n_;clear n_;have n_:=aG hb9 kk31;clear kk31;have kk31:=n_;clear n_;have n_:=aG hb9 kk40;clear kk40;have kk40:=n_;clear n_;have n_:=aG hb9 kk41;clear kk41;have kk41:=n_;clear n_;have n_:=aG hb9 kk50;clear kk50;have kk50:=n_;clear n_;have n_:=aG hb9 kk51;clear kk51;have kk51:=n_;clear n_;have n_:=aG hb9 kk60;clear kk60;have kk60:=n_;clear n_;have n_:=aG hb9 kk61;clear kk61;have kk61:=n_;clear n_;have n_:=aG hb9 kk62;clear kk62;have kk62:=n_;clear n_;have n_:=aG hb9 kk70;clear kk70;have kk70:=n_;clear n_;have n_:=aG hb9 kk71;clear kk71;have kk71:=n_;clear n_;have n_:=aG hb9 kk72;clear kk72;have kk72:=n_;clear n_;clear hb9)
       | (go_at_call 130;(with_reducible refine (HCF.out _ ?sb).mono ?_);(case sb=>first|exact HB6.out|exact cB HB6.out|exact qH HB6.out _);rw [HANY.out];rintro e w9 ⟨rfl,hb9⟩;have m0_:=aD (aE HB6.out hb9);clear HB6;have HB6:=m0_;clear m0_;have n_:=aG hb9 kk00;clear kk00;have kk00:=n_;clear n_;have n_:=aG hb9 kk01;clear kk01;have kk01:=n_;clear n_;have n_:=aG hb9 kk10;clear kk10;have kk10:=n_;clear n_;have n_:=aG hb9 kk11;clear kk11;have kk11:=n_;clear n_;have n_:=aG hb9 kk20;clear kk20;have kk20:=n_;clear n_;have n_:=aG hb9 kk21;clear kk21;have kk21:=n_;clear n_;have n_:=aG hb9 kk30;clear kk30;have kk30:=n_;clear n_;have n_:=aG hb9 kk31;clear kk31;have kk31:=n_;clear n_;have n_:=aG hb9 kk40;clear kk40;have kk40:=n_;clear n_;have n_:=aG hb9 kk41;clear kk41;have kk41:=n_;clear n_;have n_:=aG hb9 kk50;clear kk50;have kk50:=n_;clear n_;have n_:=aG hb9 kk51;clear kk51;have kk51:=n_;clear n_;have n_:=aG hb9 kk60;clear kk60;have kk60:=n_;clear n_;have n_:=aG hb9 kk61;clear kk61;have kk61:=n_;clear n_;have n_:=aG hb9 kk62;clear kk62;have kk62:=n_;clear n_;have n_:=aG hb9 kk70;clear kk70;have kk70:=n_;clear n_;have n_:=aG hb9 kk71;clear kk71;have kk71:=n_;clear n_;have n_:=aG hb9 kk72;clear kk72;have kk72:=n_;clear n_;clear hb9))
      go_ret2
      exact ⟨_,rfl,Kd.R_nil _ _ _ _ _,bZ HB.out HIL.out HB6.out⟩
     | false =>
      rw [hany,if_neg (by decide)] at h
      have HANY:=aD hany
      clear hany
      obtain ⟨⟨c0_1,c0_2,c0_3⟩,hc,h⟩:=iS h
      obtain ⟨⟨a0_1,a0_2,a0_3⟩,ha,hc⟩:=iS hc
      obtain ⟨⟨b0_1,b0_2,b0_3⟩,hb,hc⟩:=iS hc
      have HPA0:=aD (show impl_through.f k x0 y0 x4 y4=some (a0_1,a0_2,a0_3) by have t_:=HXY.out;simp only [uC,tJ,t_] at ha;exact ha)
      have HPB0:=aD (show impl_through.f k x1 y1 x3 y3=some (b0_1,b0_2,b0_3) by have t_:=HXY.out;simp only [uC,tJ,t_] at hb;exact hb)
      have HPC0:=aD (show impl_CrossOf.f k a0_1 a0_2 a0_3 b0_1 b0_2 b0_3=some (c0_1,c0_2,c0_3) from hc)
      clear ha hb hc
      obtain ⟨⟨c1_1,c1_2,c1_3⟩,hc,h⟩:=iS h
      obtain ⟨⟨a1_1,a1_2,a1_3⟩,ha,hc⟩:=iS hc
      obtain ⟨⟨b1_1,b1_2,b1_3⟩,hb,hc⟩:=iS hc
      have HPA1:=aD (show impl_through.f k x0 y0 x5 y5=some (a1_1,a1_2,a1_3) by have t_:=HXY.out;simp only [uC,tJ,t_] at ha;exact ha)
      have HPB1:=aD (show impl_through.f k x2 y2 x3 y3=some (b1_1,b1_2,b1_3) by have t_:=HXY.out;simp only [uC,tJ,t_] at hb;exact hb)
      have HPC1:=aD (show impl_CrossOf.f k a1_1 a1_2 a1_3 b1_1 b1_2 b1_3=some (c1_1,c1_2,c1_3) from hc)
      clear ha hb hc
      obtain ⟨⟨c2_1,c2_2,c2_3⟩,hc,h⟩:=iS h
      obtain ⟨⟨a2_1,a2_2,a2_3⟩,ha,hc⟩:=iS hc
      obtain ⟨⟨b2_1,b2_2,b2_3⟩,hb,hc⟩:=iS hc
      have HPA2:=aD (show impl_through.f k x1 y1 x5 y5=some (a2_1,a2_2,a2_3) by have t_:=HXY.out;simp only [uC,tJ,t_] at ha;exact ha)
      have HPB2:=aD (show impl_through.f k x2 y2 x4 y4=some (b2_1,b2_2,b2_3) by have t_:=HXY.out;simp only [uC,tJ,t_] at hb;exact hb)
      have HPC2:=aD (show impl_CrossOf.f k a2_1 a2_2 a2_3 b2_1 b2_2 b2_3=some (c2_1,c2_2,c2_3) from hc)
      clear ha hb hc
      obtain ⟨rfl,rfl⟩:=Prod.mk.inj (Option.some.inj (show some ([(⟨c0_1,c0_2,c0_3⟩:zR),⟨c1_1,c1_2,c1_3⟩,⟨c2_1,c2_2,c2_3⟩],true)=some (r1,r2) from h))
      clear h
      go_wp2_with (first
       | (go_at_call 129;(with_reducible refine (cV _ _ _ _ _ true _ HL1.out).mono ?_);rintro e w9 ⟨rfl,hb9⟩;have m0_:=aD (aE HB6.out hb9);clear HB6;have HB6:=m0_;clear m0_;have n_:=aG hb9 kk00;clear kk00;have kk00:=n_;clear n_;have n_:=aG hb9 kk01;clear kk01;have kk01:=n_;clear n_;have n_:=aG hb9 kk10;clear kk10;have kk10:=n_;clear n_;have n_:=aG hb9 kk11;clear kk11;have kk11:=n_;clear n_;have n_:=aG hb9 kk20;clear kk20;have kk20:=n_;clear n_;have n_:=aG hb9 kk21;clear kk21;have kk21:=n_;clear n_;have n_:=aG hb9 kk30;clear kk30;have kk30:=n_;clear n_;have n_:=aG hb9 kk31;clear kk31;have kk31:=n_;clear n_;have n_:=aG hb9 kk40;clear kk40;have kk40:=n_;clear n_;have n_:=aG hb9 kk41;clear kk41;have kk41:=n_;clear n_;have n_:=aG hb9 kk50;clear kk50;have kk50:=n_;clear n_;have n_:=aG hb9 kk51;clear kk51;have kk51:=n_;clear n_;have n_:=aG hb9 kk60;clear kk60;have kk60:=n_;clear n_;have n_:=aG hb9 kk61;clear kk61;have kk61:=n_;clear n_;have n_:=aG hb9 kk62;clear kk62;have kk62:=n_;clear n_;have n_:=aG hb9 kk70;clear kk70;have kk70:=n_;clear n_;have n_:=aG hb9 kk71;clear kk71;have kk71:=n_;clear n_;have n_:=aG hb9 kk72;clear kk72;have kk72:=n_;clear n_;clear hb9)
       | (go_at_call 129;(with_reducible refine (cV _ _ _ _ _ true _ HL2.out).mono ?_);rintro e w9 ⟨rfl,hb9⟩;have m0_:=aD (aE HB6.out hb9);clear HB6;have HB6:=m0_;clear m0_;have n_:=aG hb9 kk00;clear kk00;have kk00:=n_;clear n_;have n_:=aG hb9 kk01;clear kk01;have kk01:=n_;clear n_;have n_:=aG hb9 kk10;clear kk10;have kk10:=n_;clear n_;have n_:=aG hb9 kk11;clear kk11;have kk11:=n_;clear n_;have n_:=aG hb9 kk20;clear kk20;have kk20:=n_;clear n_;have n_:=aG hb9 kk21;clear kk21;have kk21:=n_;clear n_;have n_:=aG hb9 kk30;clear kk30;have kk30:=n_;clear n_;have n_:=aG hb9 kk31;clear kk31;have kk31:=n_;clear n_;have n_:=aG hb9 kk40;clear kk40;have kk40:=n_;clear n_;have n_:=aG hb9 kk41;clear kk41;have kk41:=n_;clear n_;have n_:=aG hb9 kk50;clear kk50;have kk50:=n_;clear n_;have n_:=aG hb9 kk51;clear kk51;have kk51:=n_;clear n_;have n_:=aG hb9 kk60;clear kk60;have kk60:=n_;clear n_;have n_:=aG hb9 kk61;clear kk61;have kk61:=n_;clear n_;have n_:=aG hb9 kk62;clear kk62;have kk62:=n_;clear n_;have n_:=aG hb9 kk70;clear kk70;have kk70:=n_;clear n_;have n_:=aG hb9 kk71;clear kk71;have kk71:=n_;clear n_;have n_:=aG hb9 kk72;clear kk72;have kk72:=n_;clear n_;clear hb9)
       | (go_at_call 126;(with_reducible refine (bY k _ _ _ _ _ _ false _ HEQ.out).mono ?_);rintro e w9 ⟨rfl,hb9⟩;have m0_:=aD (aE HB6.out hb9);clear HB6;have HB6:=m0_;clear m0_;have n_:=aG hb9 kk00;clear kk00;have kk00:=n_;clear n_;have n_:=aG hb9 kk01;clear kk01;have kk01:=n_;clear n_;have n_:=aG hb9 kk10;clear kk10;have kk10:=n_;clear n_;have n_:=aG hb9 kk11;clear kk11;have kk11:=n_;clear n_;have n_:=aG hb9 kk20;clear kk20;have kk20:=n_;clear n_;have n_:=aG hb9 kk21;clear kk21;have kk21:=n_;clear n_;have n_:=aG hb9 kk30;clear kk30;have kk30:=n_;clear n_;have n_:=aG hb9 kk31;clear kk31;have kk31:=n_;clear n_;have n_:=aG hb9 kk40;clear kk40;have kk40:=n_;clear n_;have n_:=aG hb9 kk41;clear kk41;have kk41:=n_;clear n_;have n_:=aG hb9 kk50;clear kk50;have kk50:=n_;clear n_;have n_:=aG hb9 kk51;clear kk51;have kk51:=n_;clear n_;have n_:=aG hb9 kk60;clear kk60;have kk60:=n_;clear n_;have n_:=aG hb9 kk61;clear kk61;have kk61:=n_;clear n_;have n_:=aG hb9 kk62;clear kk62;have kk62:=n_;clear n_;have n_:=aG hb9 kk70;clear kk70;have kk70:=n_;clear n_;have n_:=aG hb9 kk71;clear kk71;have kk71:=n_;clear n_;have n_:=aG hb9 kk72;clear kk72;have kk72:=n_;clear n_;clear hb9)
       | (go_at_call 130;(with_reducible refine (HCF.out _ ?sb).mono ?_);(case sb=>first|exact HB6.out|exact cB HB6.out|exact qH HB6.out _);rw [HANY.out];rintro e w9 ⟨rfl,hb9⟩;have m0_:=aD (aE HB6.out hb9);clear HB6;have HB6:=m0_;clear m0_;have n_:=aG hb9 kk00;clear kk00;have kk00:=n_;clear n_;have n_:=aG hb9 kk01;clear kk01;have kk01:=n_;clear n_;have n_:=aG hb9 kk10;clear kk10;have kk10:=n_;clear n_;have n_:=aG hb9 kk11;clear kk11;have kk11:=n_;clear n_;have n_:=aG hb9 kk20;clear kk20;have kk20:=n_;clear n_;have n_:=aG hb9 kk21;clear kk21;have kk21:=n_;clear n_;have n_:=aG hb9 kk30;clear kk30;have kk30:=n_;clear n_;have n_:=aG hb9 kk31;clear kk31;have kk31:=n_;clear n_;have n_:=aG hb9 kk40;clear kk40;have kk40:=n_;clear n_;have n_:=aG hb9 kk41;clear kk41;have kk41:=n_;clear n_;have n_:=aG hb9 kk50;clear kk50;have kk50:=n_;clear n_;have n_:=aG hb9 kk51;clear kk51;have kk51:=n_;clear n_;have n_:=aG hb9 kk60;clear kk60;have kk60:=n_;clear n_;have n_:=aG hb9 kk61;clear kk61;have kk61:=n_;clear n_;have n_:=aG hb9 kk62;clear kk62;have kk62:=n_;clear n_;have n_:=aG hb9 kk70;clear kk70;have kk70:=n_;clear n_;have n_:=aG hb9 kk71;clear kk71;have kk71:=n_;clear n_;have n_:=aG hb9 kk72;clear kk72;have kk72:=n_;clear n_;clear hb9))
      generalize hw9:w9=W9 at HB6 kk00 kk01 kk10 kk11 kk20 kk21 kk30 kk31 kk40 kk41 kk50 kk51 kk60 kk61 kk62 kk70 kk71 kk72 ⊢
      clear hw9
      refine dH (S:=fun w'=>Below W9.heap.size W9 w') 22 W9.heap.size [] (by kernel_rfl) (by kernel_rfl) (cB (Below.refl _ _)) (fun _ _ h1 h2=>h1.trans h2) (fun _ h1=>h1.size) ?_
      iterate 22 (first
       | (refine eH (v:=?_) (a':=?_) rfl rfl rfl rfl (by rfl) ?_ ?_ ?_;rotate_left 2;(· rintro w' hb';go_simp;with_reducible rfl);(· simp only [Act.put,List.setIfInBounds_toArray,List.set_cons_zero,List.set_cons_succ,aZ,bB];rfl))
       | (refine eH (v:=?_) (a':=?_) rfl rfl rfl rfl (by rfl) ?_ ?_ ?_;rotate_left 2;(· rintro w' hb';have s0:=aG hb' kk00;have s1:=aG hb' kk01;have s2:=aG hb' kk10;have s3:=aG hb' kk11;have s4:=aG hb' kk20;have s5:=aG hb' kk21;have s6:=aG hb' kk30;have s7:=aG hb' kk31;have s8:=aG hb' kk40;have s9:=aG hb' kk41;have s10:=aG hb' kk50;have s11:=aG hb' kk51;go_simp;with_reducible rfl);(· simp only [Act.put,List.setIfInBounds_toArray,List.set_cons_zero,List.set_cons_succ,aZ,bB];rfl))
       | (refine fZ (a':=?_) (.agg #[.int .i64 a0_1,.int .i64 a0_2,.int .i64 a0_3]) rfl rfl Try.func125 rfl rfl rfl (by rfl) (by kernel_rfl) rfl #[.agg #[.int .i64 x0,.int .i64 y0],.agg #[.int .i64 x4,.int .i64 y4]] (by (try simp only [List.map_toArray,List.map_cons,List.map_nil]);rfl) ?_ ?_ ?_;rotate_left;(· rintro w' hb';with_reducible refine (cT k _ _ _ _ a0_1 a0_2 a0_3 _ HPA0.out).mono ?_;rintro e w1 ⟨rfl,hb1⟩;exact ⟨rfl,hb1⟩);(· simp only [Act.put,List.setIfInBounds_toArray,List.set_cons_zero,List.set_cons_succ,aZ,bB];rfl))
       | (refine fZ (a':=?_) (.agg #[.int .i64 b0_1,.int .i64 b0_2,.int .i64 b0_3]) rfl rfl Try.func125 rfl rfl rfl (by rfl) (by kernel_rfl) rfl #[.agg #[.int .i64 x1,.int .i64 y1],.agg #[.int .i64 x3,.int .i64 y3]] (by (try simp only [List.map_toArray,List.map_cons,List.map_nil]);rfl) ?_ ?_ ?_;rotate_left;(· rintro w' hb';with_reducible refine (cT k _ _ _ _ b0_1 b0_2 b0_3 _ HPB0.out).mono ?_;rintro e w1 ⟨rfl,hb1⟩;exact ⟨rfl,hb1⟩);(· simp only [Act.put,List.setIfInBounds_toArray,List.set_cons_zero,List.set_cons_succ,aZ,bB];rfl))
       | (refine fZ (a':=?_) (.agg #[.int .i64 a1_1,.int .i64 a1_2,.int .i64 a1_3]) rfl rfl Try.func125 rfl rfl rfl (by rfl) (by kernel_rfl) rfl #[.agg #[.int .i64 x0,.int .i64 y0],.agg #[.int .i64 x5,.int .i64 y5]] (by (try simp only [List.map_toArray,List.map_cons,List.map_nil]);rfl) ?_ ?_ ?_;rotate_left;(· rintro w' hb';with_reducible refine (cT k _ _ _ _ a1_1 a1_2 a1_3 _ HPA1.out).mono ?_;rintro e w1 ⟨rfl,hb1⟩;exact ⟨rfl,hb1⟩);(· simp only [Act.put,List.setIfInBounds_toArray,List.set_cons_zero,List.set_cons_succ,aZ,bB];rfl))
       | (refine fZ (a':=?_) (.agg #[.int .i64 b1_1,.int .i64 b1_2,.int .i64 b1_3]) rfl rfl Try.func125 rfl rfl rfl (by rfl) (by kernel_rfl) rfl #[.agg #[.int .i64 x2,.int .i64 y2],.agg #[.int .i64 x3,.int .i64 y3]] (by (try simp only [List.map_toArray,List.map_cons,List.map_nil]);rfl) ?_ ?_ ?_;rotate_left;(· rintro w' hb';with_reducible refine (cT k _ _ _ _ b1_1 b1_2 b1_3 _ HPB1.out).mono ?_;rintro e w1 ⟨rfl,hb1⟩;exact ⟨rfl,hb1⟩);(· simp only [Act.put,List.setIfInBounds_toArray,List.set_cons_zero,List.set_cons_succ,aZ,bB];rfl))
       | (refine fZ (a':=?_) (.agg #[.int .i64 a2_1,.int .i64 a2_2,.int .i64 a2_3]) rfl rfl Try.func125 rfl rfl rfl (by rfl) (by kernel_rfl) rfl #[.agg #[.int .i64 x1,.int .i64 y1],.agg #[.int .i64 x5,.int .i64 y5]] (by (try simp only [List.map_toArray,List.map_cons,List.map_nil]);rfl) ?_ ?_ ?_;rotate_left;(· rintro w' hb';with_reducible refine (cT k _ _ _ _ a2_1 a2_2 a2_3 _ HPA2.out).mono ?_;rintro e w1 ⟨rfl,hb1⟩;exact ⟨rfl,hb1⟩);(· simp only [Act.put,List.setIfInBounds_toArray,List.set_cons_zero,List.set_cons_succ,aZ,bB];rfl))
       | (refine fZ (a':=?_) (.agg #[.int .i64 b2_1,.int .i64 b2_2,.int .i64 b2_3]) rfl rfl Try.func125 rfl rfl rfl (by rfl) (by kernel_rfl) rfl #[.agg #[.int .i64 x2,.int .i64 y2],.agg #[.int .i64 x4,.int .i64 y4]] (by (try simp only [List.map_toArray,List.map_cons,List.map_nil]);rfl) ?_ ?_ ?_;rotate_left;(· rintro w' hb';with_reducible refine (cT k _ _ _ _ b2_1 b2_2 b2_3 _ HPB2.out).mono ?_;rintro e w1 ⟨rfl,hb1⟩;exact ⟨rfl,hb1⟩);(· simp only [Act.put,List.setIfInBounds_toArray,List.set_cons_zero,List.set_cons_succ,aZ,bB];rfl))
       | (refine fZ (a':=?_) (.agg #[.int .i64 c0_1,.int .i64 c0_2,.int .i64 c0_3]) rfl rfl Try.func77 rfl rfl rfl (by rfl) (by kernel_rfl) rfl #[.agg #[.int .i64 a0_1,.int .i64 a0_2,.int .i64 a0_3],.agg #[.int .i64 b0_1,.int .i64 b0_2,.int .i64 b0_3]] (by (try simp only [List.map_toArray,List.map_cons,List.map_nil]);rfl) ?_ ?_ ?_;rotate_left;(· rintro w' hb';with_reducible refine (eF k _ _ _ _ _ _ c0_1 c0_2 c0_3 _ HPC0.out).mono ?_;rintro e w1 ⟨rfl,hb1⟩;exact ⟨rfl,hb1⟩);(· simp only [Act.put,List.setIfInBounds_toArray,List.set_cons_zero,List.set_cons_succ,aZ,bB];rfl))
       | (refine fZ (a':=?_) (.agg #[.int .i64 c1_1,.int .i64 c1_2,.int .i64 c1_3]) rfl rfl Try.func77 rfl rfl rfl (by rfl) (by kernel_rfl) rfl #[.agg #[.int .i64 a1_1,.int .i64 a1_2,.int .i64 a1_3],.agg #[.int .i64 b1_1,.int .i64 b1_2,.int .i64 b1_3]] (by (try simp only [List.map_toArray,List.map_cons,List.map_nil]);rfl) ?_ ?_ ?_;rotate_left;(· rintro w' hb';with_reducible refine (eF k _ _ _ _ _ _ c1_1 c1_2 c1_3 _ HPC1.out).mono ?_;rintro e w1 ⟨rfl,hb1⟩;exact ⟨rfl,hb1⟩);(· simp only [Act.put,List.setIfInBounds_toArray,List.set_cons_zero,List.set_cons_succ,aZ,bB];rfl))
       | (refine fZ (a':=?_) (.agg #[.int .i64 c2_1,.int .i64 c2_2,.int .i64 c2_3]) rfl rfl Try.func77 rfl rfl rfl (by rfl) (by kernel_rfl) rfl #[.agg #[.int .i64 a2_1,.int .i64 a2_2,.int .i64 a2_3],.agg #[.int .i64 b2_1,.int .i64 b2_2,.int .i64 b2_3]] (by (try simp only [List.map_toArray,List.map_cons,List.map_nil]);rfl) ?_ ?_ ?_;rotate_left;(· rintro w' hb';with_reducible refine (eF k _ _ _ _ _ _ c2_1 c2_2 c2_3 _ HPC2.out).mono ?_;rintro e w1 ⟨rfl,hb1⟩;exact ⟨rfl,hb1⟩);(· simp only [Act.put,List.setIfInBounds_toArray,List.set_cons_zero,List.set_cons_succ,aZ,bB];rfl))
       | (refine EP #[.int .i64 c0_1,.int .i64 c0_2,.int .i64 c0_3,.int .i64 c1_1,.int .i64 c1_2,.int .i64 c1_3,.int .i64 c2_1,.int .i64 c2_2,.int .i64 c2_3] 72 3 rfl rfl (by rfl) rfl (by rfl) ?_ ?_;(· rintro w' hb';first|(go_simp;done)|(go_simp;rfl))))
      refine fB ?_
      intro w10 hb10 g9 _ h9 hn9
      unfold vB
      show wpAnyLast _ _ _ _ _ _ 2 (bm 24 4194303) _ _
      refine jY (i:=22) (N:=some 2) (v:=?_) (a':=?_) (bm 24 8388607) rfl rfl (by kernel_rfl) (fun _ _ _ h=>h) (Or.inl ⟨by rfl,?_⟩) ?_ ?_
      rotate_left
      ·intro w'
       go_simp
       with_reducible rfl
      rotate_left
      ·simp only [Act.put,List.setIfInBounds_toArray,List.set_cons_zero,List.set_cons_succ,aZ,bB]
       rfl
      refine jY (i:=23) (N:=some 3) (v:=?_) (a':=?_) (bm 24 16777215) rfl rfl (by kernel_rfl) (fun _ _ _ h=>h) (Or.inl ⟨by rfl,?_⟩) ?_ ?_
      rotate_left
      ·intro w'
       go_simp
       with_reducible rfl
      rotate_left
      ·simp only [Act.put,List.setIfInBounds_toArray,List.set_cons_zero,List.set_cons_succ,aZ,bB]
       rfl
      refine dD (by kernel_rfl) ?_
      have HBZ:=aD (bZ (bZ HB.out HIL.out HB6.out) (Nat.le_trans HIL.out (aM HB6.out)) hb10)
      have HRZ:=aD (show Kd.R gG 72 w10 w.heap.size (fun _=>True) (.slice (some ⟨g9,0,none⟩) 3 3) [(⟨c0_1,c0_2,c0_3⟩:zR),⟨c1_1,c1_2,c1_3⟩,⟨c2_1,c2_2,c2_3⟩] from ⟨fun _ _=>trivial,_,⟨by rfl,.inr ⟨g9,3,_,rfl,Nat.le_trans (Nat.le_trans HIL.out (aM HB6.out)) hn9,h9,Nat.le_refl _,by decide,rfl,rfl⟩⟩,iE.snoc (iE.snoc (iE.snoc (iE.none _ _) (fM _ _ _ (⟨c0_1,c0_2,c0_3⟩:zR)) rfl) (fM _ _ _ (⟨c1_1,c1_2,c1_3⟩:zR)) rfl) (fM _ _ _ (⟨c2_1,c2_2,c2_3⟩:zR)) rfl⟩)
      clear hb10 h9 hn9
      go_wp2
      go_ret2
      exact ⟨_,rfl,HRZ.out,HBZ.out⟩
def aX (w0 W:World) (g:Nat) (f0:List Int) (f1:Int) (f2:Int):Prop:=∃ A0 c0,W.heap[g]? = some (.cells #[.slice A0 f0.length c0,.int .i64 f1,.int .i64 f2] 133 (0,0))∧w0.heap.size≤g∧Kd.C (Kd.int .u8) w0 A0 f0.length f0
theorem aX.grown {w0 W:World} {g:Nat} {f0:List Int} {f1:Int} {f2:Int} {W1:World} {row:Option Nat} (h:aX w0 W g f0 f1 f2) (hw:W.grownBy W1 row) (hne:some g≠row):aX w0 W1 g f0 f1 f2:=by
 obtain ⟨A0,c0,hb,hg,hr0⟩:=h
 exact ⟨A0,c0,pA hb hw hne,hg,hr0⟩
theorem aX.kept {w0 W:World} {g:Nat} {f0:List Int} {f1:Int} {f2:Int} {W1:World} {S:Nat→Prop} (h:aX w0 W g f0 f1 f2) (hk:lT W W1 S) (hne:¬ S g):aX w0 W1 g f0 f1 f2:=by
 obtain ⟨A0,c0,hb,hg,hr0⟩:=h
 exact ⟨A0,c0,AT hb hk hne,hg,hr0⟩
theorem aX.below {w0 W:World} {g:Nat} {f0:List Int} {f1:Int} {f2:Int} {W1:World} (h:aX w0 W g f0 f1 f2) (hw:Below W.heap.size W W1):aX w0 W1 g f0 f1 f2:=h.grown (oJ hw none) (by simp)
theorem aX.alloc {w0 W:World} {g:Nat} {f0:List Int} {f1:Int} {f2:Int} (h:aX w0 W g f0 f1 f2) (o:Obj):aX w0 (W.alloc o) g f0 f1 f2:=h.below (qH (Below.refl _ _) o)
theorem aX.drewN {w0 W:World} {g:Nat} {f0:List Int} {f1:Int} {f2:Int} (h:aX w0 W g f0 f1 f2) (m:Nat):aX w0 (W.drewN m) g f0 f1 f2:=h
theorem aX.drew {w0 W:World} {g:Nat} {f0:List Int} {f1:Int} {f2:Int} (h:aX w0 W g f0 f1 f2):aX w0 W.drew g f0 f1 f2:=h
theorem DG {w0 W:World} {g:Nat} {f0:List Int} {f1:Int} {f2:Int} {w':World} {m:Nat} (hq:W.drewN m=w') (h:aX w0 W g f0 f1 f2):aX w0 w' g f0 f1 f2:=by subst hq;exact aX.drewN h m
theorem aX.apart {w0 W:World} {g:Nat} {f0:List Int} {f1:Int} {f2:Int} {α:Type} {d:Kd α} {e:Nat} {base:Nat} {ok:Nat→Prop} {v:Value} {xs:List α} (h:aX w0 W g f0 f1 f2) (ho:d.R e W base ok v xs) (ht:∀ q,q ∈ e::d.E→q≠133):d.R e W base (fun k=>ok k∧k≠g) v xs:=by
 obtain ⟨A0,c0,hb,hg,hr0⟩:=h
 exact Kd.R_types ho hb ht
theorem aY {w0 W:World} {g:Nat} {f0:List Int} {f1:Int} {f2:Int} {α:Type} {d:Kd α} {e:Nat} {base:Nat} {ok:Nat→Prop} {v:Value} {xs:List α} (h:aX w0 W g f0 f1 f2) (ho:d.R e W base ok v xs) (ht:e≠133):some g≠v.ownBlock:=by
 obtain ⟨A0,c0,hb,hg,hr0⟩:=h
 exact Kd.R_ne ho hb ht
theorem bF {w0 W:World} {g:Nat} {f0:List Int} {f1:Int} {f2:Int} (h:aX w0 W g f0 f1 f2):g<W.heap.size:=by
 obtain ⟨A0,c0,hb,hg,hr0⟩:=h
 exact gT hb
theorem aJ {w0 W:World} {g:Nat} {f0:List Int} {f1:Int} {f2:Int} (h:aX w0 W g f0 f1 f2):w0.heap.size≤g:=by
 obtain ⟨A0,c0,hb,hg,hr0⟩:=h
 exact hg
theorem bV {w0 W:World} {g:Nat} {f0:List Int} {f1:Int} {f2:Int} {a:Nat} {cs:Array Value} {t:TypeId} {fr:Nat×Nat} (h:aX w0 W g f0 f1 f2) (hb2:W.heap[a]? = some (.cells cs t fr)) (ht:t≠133):g≠a:=by
 obtain ⟨A0,c0,hb,hg,hr0⟩:=h
 rintro rfl
 rw [hb] at hb2
 injection hb2 with hb2
 injection hb2 with _ ht2
 exact ht ht2.symm
theorem yE {w0 W:World} {g:Nat} {f0:List Int} {f1:Int} {f2:Int} {p:Addr} (h:aX w0 W g f0 f1 f2) (hne:g≠p.block) (u:Value):aX w0 (W.setCell p u) g f0 f1 f2:=by
 obtain ⟨A0,c0,hb,hg,hr0⟩:=h
 exact ⟨A0,c0,bD hb hne u,hg,hr0⟩
theorem uD {W:World} {g:Nat} {A0:Option Addr} {c0:Nat} {f0:List Int} {f1:Int} {f2:Int} (h:W.heap[g]? = some (.cells #[.slice A0 f0.length c0,.int .i64 f1,.int .i64 f2] 133 (0,0))):W.cell? ⟨g,0,none⟩=some (.slice A0 f0.length c0):=(bJ h 0).trans rfl
theorem uE {W:World} {g:Nat} {A0:Option Addr} {c0:Nat} {f0:List Int} {f1:Int} {f2:Int} (h:W.heap[g]? = some (.cells #[.slice A0 f0.length c0,.int .i64 f1,.int .i64 f2] 133 (0,0))):W.cell? ⟨g,1,none⟩=some (.int .i64 f1):=(bJ h 1).trans rfl
theorem wI {w0 W:World} {g:Nat} {f0:List Int} {f1:Int} {f2:Int} (h:aX w0 W g f0 f1 f2) (x:Int):aX w0 (W.setCell ⟨g,1,none⟩ (.int .i64 x)) g f0 x f2:=by
 obtain ⟨A0,c0,hb,hg,hr0⟩:=h
 exact ⟨A0,c0,by simpa using tE hb 1 (.int .i64 x),hg,hr0⟩
theorem uF {W:World} {g:Nat} {A0:Option Addr} {c0:Nat} {f0:List Int} {f1:Int} {f2:Int} (h:W.heap[g]? = some (.cells #[.slice A0 f0.length c0,.int .i64 f1,.int .i64 f2] 133 (0,0))):W.cell? ⟨g,2,none⟩=some (.int .i64 f2):=(bJ h 2).trans rfl
theorem wJ {w0 W:World} {g:Nat} {f0:List Int} {f1:Int} {f2:Int} (h:aX w0 W g f0 f1 f2) (x:Int):aX w0 (W.setCell ⟨g,2,none⟩ (.int .i64 x)) g f0 f1 x:=by
 obtain ⟨A0,c0,hb,hg,hr0⟩:=h
 exact ⟨A0,c0,by simpa using tE hb 2 (.int .i64 x),hg,hr0⟩
theorem aX.new (w0 W:World) (A0:Option Addr) (c0:Nat) (f0:List Int) (f1:Int) (f2:Int) (hB:Below w0.heap.size w0 W) (hr0:Kd.C (Kd.int .u8) w0 A0 f0.length f0):aX w0 (W.alloc (.cells #[.slice A0 f0.length c0,.int .i64 f1,.int .i64 f2] 133)) W.heap.size f0 f1 f2:=⟨A0,c0,by simpa using heap_alloc_new W _,hB.size,hr0⟩
theorem aR {A B:Prop} (H:Aside0 A) (k:A→B:=by intro h_;repeat (first|(with_reducible first|exact h_|apply aX.alloc|apply aX.drewN|apply aX.drew|apply wI|apply wJ|refine yE ?_ (Aside0.out (by assumption)) _)|exact h_)):B:=k H.out
/-! ### spec_l1Byte: function 146 -/
def spec_l1Byte.f (s0_0:List Int) (s0_1:Int) (s0_2:Int):Option (Int×Int×Int):=if s0_1<(s0_0.length:Int) then (if 0≤s0_1 then (some (Go.bits .and .i64 (wrap64 ((Go.bits .and .i64 (Go.bits .xor .i64 ((wrap64 ((wrap64 (s0_2*6364136223846793005))+1442695040888963407)) / 8589934592) ((wrap64 ((wrap64 (s0_2*6364136223846793005))+1442695040888963407)) / 35184372088832)) 255)+(wrap64 (rd s0_0 s0_1)))) 255,wrap64 (s0_1+1),wrap64 ((wrap64 (s0_2*6364136223846793005))+1442695040888963407))) else (none)) else (some (Go.bits .and .i64 (Go.bits .xor .i64 ((wrap64 ((wrap64 (s0_2*6364136223846793005))+1442695040888963407)) / 8589934592) ((wrap64 ((wrap64 (s0_2*6364136223846793005))+1442695040888963407)) / 35184372088832)) 255,s0_1,wrap64 ((wrap64 (s0_2*6364136223846793005))+1442695040888963407)))
set_option maxHeartbeats 8000000 in
set_option maxRecDepth 100000 in
theorem gN (g:Nat) (s0_0:List Int) (s0_1:Int) (s0_2:Int) (r1:Int) (r2:Int) (r3:Int) (w0 w:World) (hI:aX w0 w g s0_0 s0_1 s0_2) (hB:Below w0.heap.size w0 w) (h:spec_l1Byte.f s0_0 s0_1 s0_2=some (r1,r2,r3)) :
  Calls Try.prog 146 #[.pointer (some ⟨g,0,none⟩)] w fun e w'=>e=.returned (.int .i64 r1)∧aX w0 w' g s0_0 r2 r3∧Below w0.heap.size w0 w'∧dO w w' g none:=by
 have HI0:=aD hI
 have HK:=aD (dO.refl w g none)
 have HL:=aD hB.size
 clear hI
 have HW0:=aD hB.size
 have HB:=aD hB
 clear hB
 unfold spec_l1Byte.f at h
 have H:=h
 clear h
 rcases mJ H with ⟨c2b0,H⟩|⟨c2b0,H⟩
 ·obtain ⟨c3b0,H⟩:=jU H
  simp only [Option.some.injEq,Prod.mk.injEq] at H
  obtain ⟨rfl,rfl,rfl⟩:=H
  obtain ⟨ASz4_0,cSz4_0,HGz4,hgz4,HSz4_0⟩:=HI0.out
  have hcz4_0:=uD HGz4
  have hcz4_1:=uE HGz4
  have hcz4_2:=uF HGz4
  have hfz4_1:=aC HGz4 1
  have hfz4_2:=aC HGz4 2
  clear HGz4 hgz4
  have p101:0≤(s0_1:Int):=dX
  have q101:s0_1<(s0_0.length:Int):=dX
  obtain ⟨ad101,e101,hx101_0⟩:=Kd.at_int HSz4_0 s0_1 p101 q101
  cases e101
  have hn101_0:ad101.block≠g:=Nat.ne_of_lt (Nat.lt_of_lt_of_le (by have:=World.block_lt_of_cell? _ _ hx101_0;first|rwa [cA] at this|exact this) (aJ HI0.out))
  replace hx101_0:=iP HB.out hx101_0
  replace hx101_0:=(kS (p:=⟨g,2,none⟩) (by first|(rw [cA];exact hn101_0)|(show (Addr.add _ _).block≠_;rw [cA];exact hn101_0)|exact hn101_0) (.int .i64 (wrap64 ((wrap64 (s0_2*6364136223846793005))+1442695040888963407)))).trans hx101_0
  (try have hy101_0:=fun (n_:Nat)=>(show (((w.drewN n_).setCell ⟨g,2,none⟩ (.int .i64 (wrap64 ((wrap64 (s0_2*6364136223846793005))+1442695040888963407))))).cell? _=some _ from hx101_0))
  clear hn101_0
  replace p101:=eq_true p101
  replace q101:=eq_true q101
  go_enter Try.func146,Try.ntmps146
  go_wp2
  repeat (go_quiet (fail);try go_wp2)
  go_ret
  exact ⟨dA,aR HI0,cM HB (aJ HI0.out),oK HK⟩
 ·simp only [Option.some.injEq,Prod.mk.injEq] at H
  obtain ⟨rfl,rfl,rfl⟩:=H
  obtain ⟨ASz5_0,cSz5_0,HGz5,hgz5,HSz5_0⟩:=HI0.out
  have hcz5_0:=uD HGz5
  have hcz5_1:=uE HGz5
  have hcz5_2:=uF HGz5
  have hfz5_1:=aC HGz5 1
  have hfz5_2:=aC HGz5 2
  clear HGz5 hgz5
  go_enter Try.func146,Try.ntmps146
  go_wp2
  repeat (go_quiet (fail);try go_wp2)
  go_ret
  exact ⟨dA,aR HI0,cM HB (aJ HI0.out),oK HK⟩
/-! ### spec_l1Below: function 109 -/
def spec_l1Below.f (s0_0:List Int) (s0_1:Int) (s0_2:Int) (a1:Int):Option (Int×Int×Int):=if a1≤0 then (some (0,s0_1,s0_2)) else (if a1≤256 then ((spec_l1Byte.f s0_0 s0_1 s0_2).bind fun bt101=>(if a1=0 then (none) else (some (Int.tmod bt101.1 a1,bt101.2.1,bt101.2.2)))) else ((spec_l1Byte.f s0_0 s0_1 s0_2).bind fun bt104=>((spec_l1Byte.f s0_0 bt104.2.1 bt104.2.2).bind fun bt107=>((spec_l1Byte.f s0_0 bt107.2.1 bt107.2.2).bind fun bt110=>((spec_l1Byte.f s0_0 bt110.2.1 bt110.2.2).bind fun bt113=>(if a1=0 then (none) else (some (Int.tmod (wrap64 ((wrap64 ((wrap64 ((wrap64 (bt104.1*16777216))+(wrap64 (bt107.1*65536))))+(wrap64 (bt110.1*256))))+bt113.1)) a1,bt113.2.1,bt113.2.2))))))))
set_option maxHeartbeats 8000000 in
set_option maxRecDepth 100000 in
theorem bE (g:Nat) (s0_0:List Int) (s0_1:Int) (s0_2:Int) (a1:Int) (r1:Int) (r2:Int) (r3:Int) (w0 w:World) (hI:aX w0 w g s0_0 s0_1 s0_2) (hB:Below w0.heap.size w0 w) (h:spec_l1Below.f s0_0 s0_1 s0_2 a1=some (r1,r2,r3)) :
  Calls Try.prog 109 #[.pointer (some ⟨g,0,none⟩),.int .i64 a1] w fun e w'=>e=.returned (.int .i64 r1)∧aX w0 w' g s0_0 r2 r3∧Below w0.heap.size w0 w'∧dO w w' g none:=by
 have HI0:=aD hI
 have HK:=aD (dO.refl w g none)
 have HL:=aD hB.size
 clear hI
 have HW0:=aD hB.size
 have HB:=aD hB
 clear hB
 unfold spec_l1Below.f at h
 have H:=h
 clear h
 rcases mJ H with ⟨c3b0,H⟩|⟨c3b0,H⟩
 ·simp only [Option.some.injEq,Prod.mk.injEq] at H
  obtain ⟨rfl,rfl,rfl⟩:=H
  go_enter Try.func109,Try.ntmps109
  go_wp2
  go_ret
  exact ⟨dA,aR HI0,cM HB (aJ HI0.out),oK HK⟩
 ·rcases mJ H with ⟨c4b0,H⟩|⟨c4b0,H⟩
  ·replace H:=iS H
   obtain ⟨⟨t101,t102,t103⟩,A50,H⟩:=H
   try dsimp only at H
   have A5:=aD A50
   clear A50
   obtain ⟨c6,H⟩:=EB H
   have c6b0:(a1==0)=false:=beq_eq_false_iff_ne.mpr c6
   have c6b1:(a1 != 0)=true:=bne_iff_ne.mpr c6
   simp only [Option.some.injEq,Prod.mk.injEq] at H
   obtain ⟨rfl,rfl,rfl⟩:=H
   go_enter Try.func109,Try.ntmps109
   go_wp2_with (first|((with_reducible refine aV (f:=146) rfl ?_);refine bK (some 14) Try.func146 #[.pointer (some ⟨g,0,none⟩)] ?_;(with_reducible refine (gN g s0_0 s0_1 s0_2 t101 t102 t103 w0 _ ?side1 ?side2 A5.out).mono ?_);(case side1=>exact aR HI0);(case side2=>exact cM HB (aJ HI0.out));rintro e w7 ⟨rfl,hi,hb,hk⟩;refine ⟨_,rfl,?_⟩;replace HK:=aD (dO.trans (oK HK) hk (.inl rfl));replace HB:=aD (hb);replace HI0:=aD (hi);(try clear hb);(try clear hk);(try clear hi)))
   go_ret
   exact ⟨dA,aR HI0,cM HB (aJ HI0.out),oK HK⟩
  ·replace H:=iS H
   obtain ⟨⟨t104,t105,t106⟩,A80,H⟩:=H
   try dsimp only at H
   have A8:=aD A80
   clear A80
   replace H:=fQ H
   obtain ⟨⟨t107,t108,t109⟩,A9,H⟩:=H
   try dsimp only at H
   replace H:=fQ H
   obtain ⟨⟨t110,t111,t112⟩,A10,H⟩:=H
   try dsimp only at H
   replace H:=fQ H
   obtain ⟨⟨t113,t114,t115⟩,A11,H⟩:=H
   try dsimp only at H
   obtain ⟨c12,H⟩:=EB H
   have c12b0:(a1==0)=false:=beq_eq_false_iff_ne.mpr c12
   have c12b1:(a1 != 0)=true:=bne_iff_ne.mpr c12
   simp only [Option.some.injEq,Prod.mk.injEq] at H
   obtain ⟨rfl,rfl,rfl⟩:=H
   go_enter Try.func109,Try.ntmps109
   go_wp2_with (first|((with_reducible refine aV (f:=146) rfl ?_);refine bK (some 18) Try.func146 #[.pointer (some ⟨g,0,none⟩)] ?_;(with_reducible refine (gN g s0_0 s0_1 s0_2 t104 t105 t106 w0 _ ?side1 ?side2 A8.out).mono ?_);(case side1=>exact aR HI0);(case side2=>exact cM HB (aJ HI0.out));rintro e w13 ⟨rfl,hi,hb,hk⟩;refine ⟨_,rfl,?_⟩;replace HK:=aD (dO.trans (oK HK) hk (.inl rfl));replace HB:=aD (hb);replace HI0:=aD (hi);(try clear hb);(try clear hk);(try clear hi))|((with_reducible refine aV (f:=146) rfl ?_);refine bK (some 20) Try.func146 #[.pointer (some ⟨g,0,none⟩)] ?_;(with_reducible refine (gN g s0_0 t105 t106 t107 t108 t109 w0 _ ?side1 ?side2 A9.out).mono ?_);(case side1=>exact aR HI0);(case side2=>exact cM HB (aJ HI0.out));rintro e w14 ⟨rfl,hi,hb,hk⟩;refine ⟨_,rfl,?_⟩;replace HK:=aD (dO.trans (oK HK) hk (.inl rfl));replace HB:=aD (hb);replace HI0:=aD (hi);(try clear hb);(try clear hk);(try clear hi))|((with_reducible refine aV (f:=146) rfl ?_);refine bK (some 22) Try.func146 #[.pointer (some ⟨g,0,none⟩)] ?_;(with_reducible refine (gN g s0_0 t108 t109 t110 t111 t112 w0 _ ?side1 ?side2 A10.out).mono ?_);(case side1=>exact aR HI0);(case side2=>exact cM HB (aJ HI0.out));rintro e w15 ⟨rfl,hi,hb,hk⟩;refine ⟨_,rfl,?_⟩;replace HK:=aD (dO.trans (oK HK) hk (.inl rfl));replace HB:=aD (hb);replace HI0:=aD (hi);(try clear hb);(try clear hk);(try clear hi))|((with_reducible refine aV (f:=146) rfl ?_);refine bK (some 24) Try.func146 #[.pointer (some ⟨g,0,none⟩)] ?_;(with_reducible refine (gN g s0_0 t111 t112 t113 t114 t115 w0 _ ?side1 ?side2 A11.out).mono ?_);(case side1=>exact aR HI0);(case side2=>exact cM HB (aJ HI0.out));rintro e w16 ⟨rfl,hi,hb,hk⟩;refine ⟨_,rfl,?_⟩;replace HK:=aD (dO.trans (oK HK) hk (.inl rfl));replace HB:=aD (hb);replace HI0:=aD (hi);(try clear hb);(try clear hk);(try clear hi)))
   go_ret
   exact ⟨dA,aR HI0,cM HB (aJ HI0.out),oK HK⟩
/-! ### spec_l1Once: function 107 -/
def spec_l1Once.f (s0_0:List Int) (s0_1:Int) (s0_2:Int) (a1:Int):Option (Bool×Int×Int):=(spec_l1Below.f s0_0 s0_1 s0_2 a1).bind fun bt101=>(some ((bt101.1==0),bt101.2.1,bt101.2.2))
set_option maxHeartbeats 8000000 in
set_option maxRecDepth 100000 in
theorem cI (g:Nat) (s0_0:List Int) (s0_1:Int) (s0_2:Int) (a1:Int) (r1:Bool) (r2:Int) (r3:Int) (w0 w:World) (hI:aX w0 w g s0_0 s0_1 s0_2) (hB:Below w0.heap.size w0 w) (h:spec_l1Once.f s0_0 s0_1 s0_2 a1=some (r1,r2,r3)) :
  Calls Try.prog 107 #[.pointer (some ⟨g,0,none⟩),.int .i64 a1] w fun e w'=>e=.returned (.bool r1)∧aX w0 w' g s0_0 r2 r3∧Below w0.heap.size w0 w'∧dO w w' g none:=by
 have HI0:=aD hI
 have HK:=aD (dO.refl w g none)
 have HL:=aD hB.size
 clear hI
 have HW0:=aD hB.size
 have HB:=aD hB
 clear hB
 unfold spec_l1Once.f at h
 have H:=h
 clear h
 replace H:=fQ H
 obtain ⟨⟨t101,t102,t103⟩,A3,H⟩:=H
 try dsimp only at H
 simp only [Option.some.injEq,Prod.mk.injEq] at H
 obtain ⟨rfl,rfl,rfl⟩:=H
 go_enter Try.func107,Try.ntmps107
 go_wp2_with (first|((with_reducible refine aV (f:=109) rfl ?_);refine bK (some 7) Try.func109 #[.pointer (some ⟨g,0,none⟩),.int .i64 a1] ?_;(with_reducible refine (bE g s0_0 s0_1 s0_2 a1 t101 t102 t103 w0 _ ?side1 ?side2 A3.out).mono ?_);(case side1=>exact aR HI0);(case side2=>exact cM HB (aJ HI0.out));rintro e w4 ⟨rfl,hi,hb,hk⟩;refine ⟨_,rfl,?_⟩;replace HK:=aD (dO.trans (oK HK) hk (.inl rfl));replace HB:=aD (hb);replace HI0:=aD (hi);(try clear hb);(try clear hk);(try clear hi)))
 go_ret
 exact ⟨dA,aR HI0,cM HB (aJ HI0.out),oK HK⟩
/-! ### spec_l1New: function 99 -/
def fO:Nat→List Int→Int→Int→Option (List Int×Int×Int)
 | 0,_,_,_=>none
 | k+1,x0,x3,x4=>if x4<(x0.length:Int) then (if x4<4000 then (if 0≤x4 then (fO k x0 (Go.bits .and .i64 (wrap64 ((wrap64 ((wrap64 (x3*131))+(wrap64 (rd x0 x4))))+7)) 1073741823) (wrap64 (x4+1))) else (none)) else (some (x0,0,x3))) else (some (x0,0,x3))
def spec_l1New.f (k:Nat) (l0:List Int):Option (List Int×Int×Int):=fO k l0 (wrap64 (26583+(l0.length:Int))) 0
set_option maxHeartbeats 8000000 in
set_option maxRecDepth 100000 in
theorem fI (k:Nat) (A0:Option Addr) (c0:Nat) (l0:List Int) (r1:List Int) (r2:Int) (r3:Int) (w0 w:World) (hB:Below w0.heap.size w0 w) (hr0:Kd.C (Kd.int .u8) w0 A0 l0.length l0) (hc0:l0.length≤c0) (h:spec_l1New.f k l0=some (r1,r2,r3)) :
  Calls Try.prog 99 #[.slice A0 l0.length c0] w fun e w'=>∃ g_:Nat,e=.returned (.pointer (some ⟨g_,0,none⟩))∧aX w0 w' g_ r1 r2 r3∧Below w0.heap.size w0 w'∧Below w.heap.size w w':=by
 have hu133:=Try.underlying133
 have HR0:=aD hr0
 have HC0:=aD hc0
 clear hr0 hc0
 have HBW:=aD (Below.refl w.heap.size w)
 have HW0:=aD hB.size
 have HB:=aD hB
 clear hB
 unfold spec_l1New.f at h
 have H:=h
 clear h
 have H':=aD H
 clear H
 go_enter Try.func99,Try.ntmps99
 go_wp2
 go_loopg [3,4] k (fun kq v3 v4 w'=>∃ (x3_1:Int) (x4_1:Int),v3=.int .i64 x3_1∧v4=.int .i64 x4_1∧Aside0 (fO kq l0 x3_1 x4_1=some (r1,r2,r3))∧Aside0 (kq≤k)∧Aside0 (Below w0.heap.size w0 w')∧Aside0 (Below w.heap.size w w'))
 case atStart=>exact ⟨(wrap64 (26583+(l0.length:Int))),(0),eO,eO,H',⟨Nat.le_refl _⟩,⟨bM HB⟩,⟨bM HBW⟩⟩
 case round =>
  clear H'
  clear HBW
  obtain ⟨x3_1,x4_1,rfl,rfl,HA,HK1,HB,HBW⟩:=hrel
  cases gk with
  | zero=>exact absurd HA.out (by simp [fO])
  | succ k1 =>
   have H:=HA.out
   clear HA
   simp only [fO] at H
   rcases mJ H with ⟨c2b0,H⟩|⟨c2b0,H⟩
   ·rcases mJ H with ⟨c3b0,H⟩|⟨c3b0,H⟩
    ·obtain ⟨c4b0,H⟩:=jU H
     have H':=aD H
     clear H
     have p101:0≤(x4_1:Int):=dX
     have q101:x4_1<(l0.length:Int):=dX
     obtain ⟨ad101,e101,hx101_0⟩:=Kd.at_int HR0.out x4_1 p101 q101
     cases e101
     replace hx101_0:=iP HB.out hx101_0
     replace p101:=eq_true p101
     replace q101:=eq_true q101
     go_wp2
     go_roundg k1
     case measure=>have:=HK1.out;omega
     case rel=>exact ⟨(Go.bits .and .i64 (wrap64 ((wrap64 ((wrap64 (x3_1*131))+(wrap64 (rd l0 x4_1))))+7)) 1073741823),(wrap64 (x4_1+1)),eO,eO,H',⟨by have:=HK1.out;omega⟩,⟨bM HB⟩,⟨bM HBW⟩⟩
    ·simp only [Option.some.injEq,Prod.mk.injEq] at H
     obtain ⟨rfl,rfl,rfl⟩:=H
     go_wp2_with (first|((with_reducible refine aW (N:=31) rfl ?_);refine bS (N:=31) #[.slice A0 l0.length c0,.int .i64 0,.int .i64 x3_1] 133 ?_;intro gb102 hg w5 hbox hb;replace HB:=aD (aE (bM HB) hb);have BK102:=aD (hbox);have GW102:=aD ((cZ HBW hg));have GE102:=aD ((Nat.le_trans HW0.out (cZ HBW hg):w0.heap.size≤gb102));replace HBW:=aD (aE HBW.out hb);clear hb hbox hg))
     go_ret
     exact ⟨_,rfl,(show aX w0 _ gb102 l0 0 x3_1 from ⟨_,_,cF BK102,GE102.out,HR0.out⟩),bM HB,cM HBW GW102.out⟩
   ·simp only [Option.some.injEq,Prod.mk.injEq] at H
    obtain ⟨rfl,rfl,rfl⟩:=H
    go_wp2_with (first|((with_reducible refine aW (N:=31) rfl ?_);refine bS (N:=31) #[.slice A0 l0.length c0,.int .i64 0,.int .i64 x3_1] 133 ?_;intro gb103 hg w6 hbox hb;replace HB:=aD (aE (bM HB) hb);have BK103:=aD (hbox);have GW103:=aD ((cZ HBW hg));have GE103:=aD ((Nat.le_trans HW0.out (cZ HBW hg):w0.heap.size≤gb103));replace HBW:=aD (aE HBW.out hb);clear hb hbox hg))
    go_ret
    exact ⟨_,rfl,(show aX w0 _ gb103 l0 0 x3_1 from ⟨_,_,cF BK103,GE103.out,HR0.out⟩),bM HB,cM HBW GW103.out⟩
/-! ### spec_l1PickInt: function 108 -/
def spec_l1PickInt.f (s0_0:List Int) (s0_1:Int) (s0_2:Int) (l1:List Int):Option (Int×Int×Int):=(spec_l1Below.f s0_0 s0_1 s0_2 (l1.length:Int)).bind fun bt101=>(if 0≤bt101.1 then (if bt101.1<(l1.length:Int) then (some (rd l1 bt101.1,bt101.2.1,bt101.2.2)) else (none)) else (none))
set_option maxHeartbeats 8000000 in
set_option maxRecDepth 100000 in
theorem dR (g:Nat) (s0_0:List Int) (s0_1:Int) (s0_2:Int) (A1:Option Addr) (c1:Nat) (l1:List Int) (r1:Int) (r2:Int) (r3:Int) (w0 w:World) (hI:aX w0 w g s0_0 s0_1 s0_2) (hB:Below w0.heap.size w0 w) (hr1:Kd.C (Kd.int .i64) w A1 l1.length l1) (hc1:l1.length≤c1) (hf1:∀ ad,A1=some ad→0<l1.length→ad.block≠g) (h:spec_l1PickInt.f s0_0 s0_1 s0_2 l1=some (r1,r2,r3)) :
  Calls Try.prog 108 #[.pointer (some ⟨g,0,none⟩),.slice A1 l1.length c1] w fun e w'=>e=.returned (.int .i64 r1)∧aX w0 w' g s0_0 r2 r3∧Below w0.heap.size w0 w'∧dO w w' g none:=by
 have HR1:=aD hr1
 have HC1:=aD hc1
 clear hr1 hc1
 have HI0:=aD hI
 have HK:=aD (dO.refl w g none)
 have HL:=aD hB.size
 clear hI
 have HW0:=aD hB.size
 have HB:=aD hB
 clear hB
 unfold spec_l1PickInt.f at h
 have H:=h
 clear h
 replace H:=fQ H
 obtain ⟨⟨t101,t102,t103⟩,A3,H⟩:=H
 try dsimp only at H
 obtain ⟨c4b0,H⟩:=jU H
 obtain ⟨c5b0,H⟩:=jU H
 simp only [Option.some.injEq,Prod.mk.injEq] at H
 obtain ⟨rfl,rfl,rfl⟩:=H
 go_enter Try.func108,Try.ntmps108
 go_wp2_with (first|((with_reducible refine aV (f:=109) rfl ?_);refine bK (some 9) Try.func109 #[.pointer (some ⟨g,0,none⟩),.int .i64 (l1.length:Int)] ?_;(with_reducible refine (bE g s0_0 s0_1 s0_2 (l1.length:Int) t101 t102 t103 w0 _ ?side1 ?side2 A3.out).mono ?_);(case side1=>exact aR HI0);(case side2=>exact cM HB (aJ HI0.out));rintro e w6 ⟨rfl,hi,hb,hk⟩;refine ⟨_,rfl,?_⟩;replace HK:=aD (dO.trans (oK HK) hk (.inl rfl));replace HB:=aD (hb);replace HI0:=aD (hi);(try clear hb);(try clear hk);(try clear hi);have p104:0≤(t101:Int):=dX;have q104:t101<(l1.length:Int):=dX;obtain ⟨ad104,e104,hx104_0⟩:=Kd.at_int HR1.out t101 p104 q104;cases e104;replace hx104_0:=gC HK.out hx104_0 (by first|(rw [cA];exact hf1 _ rfl (by omega))|exact hf1 _ rfl (by omega)|exact hf1 ad104 rfl (by omega));replace p104:=eq_true p104;replace q104:=eq_true q104))
 go_ret
 exact ⟨dA,aR HI0,cM HB (aJ HI0.out),oK HK⟩
/-! ### spec_l26Draw: function 135 -/
def spec_l26Draw.f (s0_0:List Int) (s0_1:Int) (s0_2:Int):Option (Int×Int×Int×Int×Int):=(spec_l1Below.f s0_0 s0_1 s0_2 9).bind fun bt102=>((spec_l1Below.f s0_0 bt102.2.1 bt102.2.2 9).bind fun bt105=>((spec_l1Below.f s0_0 bt105.2.1 bt105.2.2 5).bind fun bt108=>((spec_l1Once.f s0_0 bt108.2.1 bt108.2.2 16).bind fun bt112=>(if bt112.1=true then ((spec_l1PickInt.f s0_0 bt112.2.1 bt112.2.2 (([1000000,1000001,(-100001),100000]:List Int))).bind fun bt118=>(some (bt118.1,wrap64 (bt105.1-4),wrap64 (bt108.1-2),bt118.2.1,bt118.2.2))) else (some (wrap64 (bt102.1-4),wrap64 (bt105.1-4),wrap64 (bt108.1-2),bt112.2.1,bt112.2.2))))))
set_option maxHeartbeats 8000000 in
set_option maxRecDepth 100000 in
theorem eI (g:Nat) (s0_0:List Int) (s0_1:Int) (s0_2:Int) (r1:Int) (r2:Int) (r3:Int) (r4:Int) (r5:Int) (w0 w:World) (hI:aX w0 w g s0_0 s0_1 s0_2) (hB:Below w0.heap.size w0 w) (h:spec_l26Draw.f s0_0 s0_1 s0_2=some (r1,r2,r3,r4,r5)) :
  Calls Try.prog 135 #[.pointer (some ⟨g,0,none⟩)] w fun e w'=>e=.returned (.agg #[.int .i64 r1,.int .i64 r2,.int .i64 r3])∧aX w0 w' g s0_0 r4 r5∧Below w0.heap.size w0 w'∧dO w w' g none:=by
 have hu72:=Try.underlying72
 have HI0:=aD hI
 have HK:=aD (dO.refl w g none)
 have HL:=aD hB.size
 clear hI
 have HW0:=aD hB.size
 have HB:=aD hB
 clear hB
 unfold spec_l26Draw.f at h
 have H:=h
 clear h
 replace H:=fQ H
 obtain ⟨⟨t102,t103,t104⟩,A2,H⟩:=H
 try dsimp only at H
 replace H:=fQ H
 obtain ⟨⟨t105,t106,t107⟩,A3,H⟩:=H
 try dsimp only at H
 replace H:=fQ H
 obtain ⟨⟨t108,t109,t110⟩,A4,H⟩:=H
 try dsimp only at H
 replace H:=fQ H
 obtain ⟨⟨t112,t113,t114⟩,A5,H⟩:=H
 try dsimp only at H
 by_cases c6:t112=true
 ·subst c6
  rw [if_pos rfl] at H
  obtain ⟨y115,hy115⟩:∃ y_:List Int,y_=(([1000000,1000001,(-100001),100000]:List Int)):=⟨_,rfl⟩
  first|(with_reducible replace H:=uU hy115 H)|(with_reducible replace H:=uV hy115 H)|rw [← hy115] at H
  have Ny115:=aD hy115
  clear hy115
  replace H:=fQ H
  obtain ⟨⟨t118,t119,t120⟩,A7,H⟩:=H
  try dsimp only at H
  simp only [Option.some.injEq,Prod.mk.injEq] at H
  obtain ⟨rfl,rfl,rfl,rfl,rfl⟩:=H
  go_enter Try.func135,Try.ntmps135
  go_wp2_with (first|((with_reducible refine aW (N:=2) rfl ?_);refine bS (N:=2) #[.int .i64 0,.int .i64 0,.int .i64 0] 72 ?_;intro gb101 hg w8 hbox hb;replace HB:=aD (aE (cM HB (aJ HI0.out)) hb);have BK101:=aD (hbox);have GW101:=aD ((by rw [hg];exact (fS (w:=w) (g:=g) (row:=none) (oK HK)):w.heap.size≤gb101));have GE101:=aD ((Nat.le_trans HW0.out (by rw [hg];exact (fS (w:=w) (g:=g) (row:=none) (oK HK)):w.heap.size≤gb101):w0.heap.size≤gb101));replace HK:=aD (dO.trans (oK HK) (eP hb g none) (.inl rfl));have NB0_101:=aD ((by rw [hg];exact Nat.ne_of_lt (bF (show aX w0 _ g s0_0 s0_1 s0_2 from aR HI0)):g≠gb101));have NB101_0:=aD ((by rw [hg];exact Nat.ne_of_gt (bF (show aX w0 _ g s0_0 s0_1 s0_2 from aR HI0)):gb101≠g));replace HI0:=aD (aX.below (aR HI0) hb);clear hb hbox hg)|((with_reducible refine aV (f:=109) rfl ?_);refine bK (some 5) Try.func109 #[.pointer (some ⟨g,0,none⟩),.int .i64 9] ?_;(with_reducible refine (bE g s0_0 s0_1 s0_2 9 t102 t103 t104 w0 _ ?side1 ?side2 A2.out).mono ?_);(case side1=>exact aR HI0);(case side2=>exact cM HB (aJ HI0.out));rintro e w9 ⟨rfl,hi,hb,hk⟩;refine ⟨_,rfl,?_⟩;replace BK101:=aD (dO.blk hk (g':=gb101) (o:=.cells #[.int .i64 0,.int .i64 0,.int .i64 0] 72 (0,0)) (cF BK101) NB101_0.out (by simp));replace HK:=aD (dO.trans (by repeat (first|(with_reducible first|exact HK.out|apply bQ|apply cD|apply cK|apply cE|refine cO ?_ GW101.out _)|exact HK.out)) hk (.inl rfl));replace HB:=aD (hb);replace HI0:=aD (hi);(try clear hb);(try clear hk);(try clear hi))|((with_reducible refine aV (f:=109) rfl ?_);refine bK (some 8) Try.func109 #[.pointer (some ⟨g,0,none⟩),.int .i64 9] ?_;(with_reducible refine (bE g s0_0 t103 t104 9 t105 t106 t107 w0 _ ?side1 ?side2 A3.out).mono ?_);(case side1=>exact aR HI0);(case side2=>exact cM HB (aJ HI0.out));rintro e w10 ⟨rfl,hi,hb,hk⟩;refine ⟨_,rfl,?_⟩;replace BK101:=aD (dO.blk hk (g':=gb101) (o:=.cells #[.int .i64 0,.int .i64 0,.int .i64 0] 72 (0,0)) (cF BK101) NB101_0.out (by simp));replace HK:=aD (dO.trans (by repeat (first|(with_reducible first|exact HK.out|apply bQ|apply cD|apply cK|apply cE|refine cO ?_ GW101.out _)|exact HK.out)) hk (.inl rfl));replace HB:=aD (hb);replace HI0:=aD (hi);(try clear hb);(try clear hk);(try clear hi))|((with_reducible refine aV (f:=109) rfl ?_);refine bK (some 11) Try.func109 #[.pointer (some ⟨g,0,none⟩),.int .i64 5] ?_;(with_reducible refine (bE g s0_0 t106 t107 5 t108 t109 t110 w0 _ ?side1 ?side2 A4.out).mono ?_);(case side1=>exact aR HI0);(case side2=>exact cM HB (aJ HI0.out));rintro e w11 ⟨rfl,hi,hb,hk⟩;refine ⟨_,rfl,?_⟩;replace BK101:=aD (dO.blk hk (g':=gb101) (o:=.cells #[.int .i64 0,.int .i64 0,.int .i64 0] 72 (0,0)) (cF BK101) NB101_0.out (by simp));replace HK:=aD (dO.trans (by repeat (first|(with_reducible first|exact HK.out|apply bQ|apply cD|apply cK|apply cE|refine cO ?_ GW101.out _)|exact HK.out)) hk (.inl rfl));replace HB:=aD (hb);replace HI0:=aD (hi);(try clear hb);(try clear hk);(try clear hi))|((with_reducible refine aW (N:=3) rfl ?_);refine bS (N:=3) #[.int .i64 0,.int .i64 0,.int .i64 0] 72 ?_;intro gb111 hg w12 hbox hb;replace HB:=aD (aE (cM HB (aJ HI0.out)) hb);have BK111:=aD (hbox);have GW111:=aD ((by rw [hg];exact (fS (w:=w) (g:=g) (row:=none) (by repeat (first|(with_reducible first|exact HK.out|apply bQ|apply cD|apply cK|apply cE|refine cO ?_ GW101.out _)|exact HK.out))):w.heap.size≤gb111));have GE111:=aD ((Nat.le_trans HW0.out (by rw [hg];exact (fS (w:=w) (g:=g) (row:=none) (by repeat (first|(with_reducible first|exact HK.out|apply bQ|apply cD|apply cK|apply cE|refine cO ?_ GW101.out _)|exact HK.out))):w.heap.size≤gb111):w0.heap.size≤gb111));replace HK:=aD (dO.trans (by repeat (first|(with_reducible first|exact HK.out|apply bQ|apply cD|apply cK|apply cE|refine cO ?_ GW101.out _)|exact HK.out)) (eP hb g none) (.inl rfl));have NB101_111:=aD ((bW BK101 hg));have NB111_101:=aD ((bX BK101 hg));replace BK101:=aD (aU BK101 hb);have NB0_111:=aD ((by rw [hg];exact Nat.ne_of_lt (bF (show aX w0 _ g s0_0 t109 t110 from aR HI0)):g≠gb111));have NB111_0:=aD ((by rw [hg];exact Nat.ne_of_gt (bF (show aX w0 _ g s0_0 t109 t110 from aR HI0)):gb111≠g));replace HI0:=aD (aX.below (aR HI0) hb);clear hb hbox hg;have hnb13:=NB111_101.out;have hnc13:=NB101_111.out;have hnb14:=NB111_0.out;have hnc14:=NB0_111.out;have hcz15_0:=aT BK111 0;have hcz15_1:=aT BK111 1;have hcz15_2:=aT BK111 2;have hfz15_0:=aC BK111.out 0;have hfz15_1:=aC BK111.out 1;have hfz15_2:=aC BK111.out 2)|((with_reducible refine aV (f:=107) rfl ?_);refine bK (some 15) Try.func107 #[.pointer (some ⟨g,0,none⟩),.int .i64 16] ?_;(with_reducible refine (cI g s0_0 t109 t110 16 true t113 t114 w0 _ ?side1 ?side2 A5.out).mono ?_);(case side1=>exact aR HI0);(case side2=>exact cM HB (aJ HI0.out));rintro e w16 ⟨rfl,hi,hb,hk⟩;refine ⟨_,rfl,?_⟩;replace BK101:=aD (dO.blk hk (g':=gb101) (o:=.cells #[.int .i64 0,.int .i64 0,.int .i64 0] 72 (0,0)) (eW BK101) NB101_0.out (by simp));replace BK111:=aD (dO.blk hk (g':=gb111) (o:=.cells #[.int .i64 (wrap64 (t102-4)),.int .i64 (wrap64 (t105-4)),.int .i64 (wrap64 (t108-2))] 72 (0,0)) (eW BK111) NB111_0.out (by simp));replace HK:=aD (dO.trans (by repeat (first|(with_reducible first|exact HK.out|apply bQ|apply cD|apply cK|apply cE|refine cO ?_ GW101.out _|refine cO ?_ GW111.out _)|exact HK.out)) hk (.inl rfl));replace HB:=aD (hb);replace HI0:=aD (hi);(try clear hb);(try clear hk);(try clear hi))|((with_reducible refine aW (N:=17) rfl ?_);refine Kd.R_lit (Kd.int .i64) _ 3 ?hg (N:=17) ?hd (xs:=([1000000,1000001,(-100001),100000]:List Int)) (inner:=[.int .i64 1000000,.int .i64 1000001,.int .i64 (-100001),.int .i64 100000]) (ok:=fun _=>True) (okp:=fun _=>True) ?hr ?hp (fun _ hk=>hk) trivial (Below.refl _ _) (Nat.le_refl _) (by simp) ?_;(case hd=>rfl);(case hg=>rfl);(case hr=>first|(go_simp;done)|(go_simp;rfl));(case hp=>exact (dF (show Kd.M (Kd.int .i64) _ _ _ 1000000 [.int .i64 1000000] from rfl) (dF (show Kd.M (Kd.int .i64) _ _ _ 1000001 [.int .i64 1000001] from rfl) (dF (show Kd.M (Kd.int .i64) _ _ _ (-100001) [.int .i64 (-100001)] from rfl) (dF (show Kd.M (Kd.int .i64) _ _ _ 100000 [.int .i64 100000] from rfl) (iE.none _ _))))));intro v116 w17 ho18 hb hg_ hnew_;clear hg_ hnew_;(first|rw [← Ny115.out] at ho18|(simp only [Int.reduceToNat] at ho18;rw [← Ny115.out] at ho18));have HO117:=aD (Kd.R_lower ho18 (fS (w:=w) (g:=g) (row:=none) (by repeat (first|(with_reducible first|exact HK.out|apply bQ|apply cD|apply cK|apply cE|refine cO ?_ GW101.out _|refine cO ?_ GW111.out _)|exact HK.out))));replace BK101:=aD (aU BK101 hb);replace BK111:=aD (aU BK111 hb);replace HK:=aD (dO.trans (by repeat (first|(with_reducible first|exact HK.out|apply bQ|apply cD|apply cK|apply cE|refine cO ?_ GW101.out _|refine cO ?_ GW111.out _)|exact HK.out)) (eP hb g none) (.inl rfl));replace HB:=aD (aE (cM HB (aJ HI0.out)) hb);replace HI0:=aD (aX.below (aR HI0) hb);clear hb ho18;obtain ⟨Ao19,co19,eo19⟩:=Kd.R_slice HO117.out;subst eo19)|((with_reducible refine aV (f:=108) rfl ?_);refine bK (some 18) Try.func108 #[.pointer (some ⟨g,0,none⟩),.slice Ao19 y115.length co19] ?_;(with_reducible refine (dR g s0_0 t113 t114 _ _ y115 t118 t119 t120 w0 _ ?side1 ?side2 ?side3 ?side4 ?side5 A7.out).mono ?_);(case side1=>exact aR HI0);(case side2=>exact cM HB (aJ HI0.out));(case side3=>exact nK (Kd.R_reads' HO117.out).2.2);(case side4=>exact (Kd.R_reads' HO117.out).2.1);(case side5=>exact iZ (aY HI0.out HO117.out (by decide)));rintro e w20 ⟨rfl,hi,hb,hk⟩;refine ⟨_,rfl,?_⟩;replace BK101:=aD (dO.blk hk (g':=gb101) (o:=.cells #[.int .i64 0,.int .i64 0,.int .i64 0] 72 (0,0)) (cF BK101) NB101_0.out (by simp));replace BK111:=aD (dO.blk hk (g':=gb111) (o:=.cells #[.int .i64 (wrap64 (t102-4)),.int .i64 (wrap64 (t105-4)),.int .i64 (wrap64 (t108-2))] 72 (0,0)) (cF BK111) NB111_0.out (by simp));replace HO117:=aD (Kd.R_mono (Kd.R_keep (aX.apart (show aX w0 _ g s0_0 t113 t114 from aR HI0) (bN HO117) (by decide)) hk (fun _ h=>h.2)) (fun _ h=>h.1));replace HK:=aD (dO.trans (by repeat (first|(with_reducible first|exact HK.out|apply bQ|apply cD|apply cK|apply cE|refine cO ?_ GW101.out _|refine cO ?_ GW111.out _)|exact HK.out)) hk (.inl rfl));replace HB:=aD (hb);replace HI0:=aD (hi);(try clear hb);(try clear hk);(try clear hi);have hcz21_0:=aT BK111 0;have hcz21_1:=aT BK111 1;have hcz21_2:=aT BK111 2;have hfz21_0:=aC BK111.out 0;have hfz21_1:=aC BK111.out 1;have hfz21_2:=aC BK111.out 2;have hnb22:=NB101_0.out;have hnc22:=NB0_101.out;have hcz23_0:=aT BK101 0;have hcz23_1:=aT BK101 1;have hcz23_2:=aT BK101 2;have hfz23_0:=aC BK101.out 0;have hfz23_1:=aC BK101.out 1;have hfz23_2:=aC BK101.out 2))
  refine bodyPost_ret (results_cell_row rfl _ _ gb101 72 #[.int .i64 t118,.int .i64 (wrap64 (t105-4)),.int .i64 (wrap64 (t108-2))] (0,0) _ rfl (by (with_reducible repeat (first|refine aQ ?_ _|refine aK ?_|refine aN ?_ _));refine cJ (cs:=#[.int .i64 t118,.int .i64 (wrap64 (t105-4)),.int .i64 0]) ?_ 2 _ rfl;(with_reducible repeat (first|refine aQ ?_ _|refine aK ?_|refine aN ?_ _));refine cJ (cs:=#[.int .i64 t118,.int .i64 0,.int .i64 0]) ?_ 1 _ rfl;(with_reducible repeat (first|refine aQ ?_ _|refine aK ?_|refine aN ?_ _));refine cJ (cs:=#[.int .i64 0,.int .i64 0,.int .i64 0]) ?_ 0 _ rfl;(with_reducible repeat (first|refine aQ ?_ _|refine aK ?_|refine aN ?_ _));refine bD ?_ NB101_111.out _;(with_reducible repeat (first|refine aQ ?_ _|refine aK ?_|refine aN ?_ _));exact BK101.out) Try.underlying72 rfl (by kernel_rfl)) rfl ?_
  exact ⟨dA,aR HI0,cM HB (aJ HI0.out),by repeat (first|(with_reducible first|exact HK.out|apply bQ|apply cD|apply cK|apply cE|refine cO ?_ GW101.out _|refine cO ?_ GW111.out _)|exact HK.out)⟩
 ·replace c6:=Bool.eq_false_iff.mpr c6
  subst c6
  rw [if_neg (show ¬ (false=true) by decide)] at H
  simp only [Option.some.injEq,Prod.mk.injEq] at H
  obtain ⟨rfl,rfl,rfl,rfl,rfl⟩:=H
  go_enter Try.func135,Try.ntmps135
  go_wp2_with (first|((with_reducible refine aW (N:=2) rfl ?_);refine bS (N:=2) #[.int .i64 0,.int .i64 0,.int .i64 0] 72 ?_;intro gb101 hg w24 hbox hb;replace HB:=aD (aE (cM HB (aJ HI0.out)) hb);have BK101:=aD (hbox);have GW101:=aD ((by rw [hg];exact (fS (w:=w) (g:=g) (row:=none) (oK HK)):w.heap.size≤gb101));have GE101:=aD ((Nat.le_trans HW0.out (by rw [hg];exact (fS (w:=w) (g:=g) (row:=none) (oK HK)):w.heap.size≤gb101):w0.heap.size≤gb101));replace HK:=aD (dO.trans (oK HK) (eP hb g none) (.inl rfl));have NB0_101:=aD ((by rw [hg];exact Nat.ne_of_lt (bF (show aX w0 _ g s0_0 s0_1 s0_2 from aR HI0)):g≠gb101));have NB101_0:=aD ((by rw [hg];exact Nat.ne_of_gt (bF (show aX w0 _ g s0_0 s0_1 s0_2 from aR HI0)):gb101≠g));replace HI0:=aD (aX.below (aR HI0) hb);clear hb hbox hg)|((with_reducible refine aV (f:=109) rfl ?_);refine bK (some 5) Try.func109 #[.pointer (some ⟨g,0,none⟩),.int .i64 9] ?_;(with_reducible refine (bE g s0_0 s0_1 s0_2 9 t102 t103 t104 w0 _ ?side1 ?side2 A2.out).mono ?_);(case side1=>exact aR HI0);(case side2=>exact cM HB (aJ HI0.out));rintro e w25 ⟨rfl,hi,hb,hk⟩;refine ⟨_,rfl,?_⟩;replace BK101:=aD (dO.blk hk (g':=gb101) (o:=.cells #[.int .i64 0,.int .i64 0,.int .i64 0] 72 (0,0)) (cF BK101) NB101_0.out (by simp));replace HK:=aD (dO.trans (by repeat (first|(with_reducible first|exact HK.out|apply bQ|apply cD|apply cK|apply cE|refine cO ?_ GW101.out _)|exact HK.out)) hk (.inl rfl));replace HB:=aD (hb);replace HI0:=aD (hi);(try clear hb);(try clear hk);(try clear hi))|((with_reducible refine aV (f:=109) rfl ?_);refine bK (some 8) Try.func109 #[.pointer (some ⟨g,0,none⟩),.int .i64 9] ?_;(with_reducible refine (bE g s0_0 t103 t104 9 t105 t106 t107 w0 _ ?side1 ?side2 A3.out).mono ?_);(case side1=>exact aR HI0);(case side2=>exact cM HB (aJ HI0.out));rintro e w26 ⟨rfl,hi,hb,hk⟩;refine ⟨_,rfl,?_⟩;replace BK101:=aD (dO.blk hk (g':=gb101) (o:=.cells #[.int .i64 0,.int .i64 0,.int .i64 0] 72 (0,0)) (cF BK101) NB101_0.out (by simp));replace HK:=aD (dO.trans (by repeat (first|(with_reducible first|exact HK.out|apply bQ|apply cD|apply cK|apply cE|refine cO ?_ GW101.out _)|exact HK.out)) hk (.inl rfl));replace HB:=aD (hb);replace HI0:=aD (hi);(try clear hb);(try clear hk);(try clear hi))|((with_reducible refine aV (f:=109) rfl ?_);refine bK (some 11) Try.func109 #[.pointer (some ⟨g,0,none⟩),.int .i64 5] ?_;(with_reducible refine (bE g s0_0 t106 t107 5 t108 t109 t110 w0 _ ?side1 ?side2 A4.out).mono ?_);(case side1=>exact aR HI0);(case side2=>exact cM HB (aJ HI0.out));rintro e w27 ⟨rfl,hi,hb,hk⟩;refine ⟨_,rfl,?_⟩;replace BK101:=aD (dO.blk hk (g':=gb101) (o:=.cells #[.int .i64 0,.int .i64 0,.int .i64 0] 72 (0,0)) (cF BK101) NB101_0.out (by simp));replace HK:=aD (dO.trans (by repeat (first|(with_reducible first|exact HK.out|apply bQ|apply cD|apply cK|apply cE|refine cO ?_ GW101.out _)|exact HK.out)) hk (.inl rfl));replace HB:=aD (hb);replace HI0:=aD (hi);(try clear hb);(try clear hk);(try clear hi))|((with_reducible refine aW (N:=3) rfl ?_);refine bS (N:=3) #[.int .i64 0,.int .i64 0,.int .i64 0] 72 ?_;intro gb111 hg w28 hbox hb;replace HB:=aD (aE (cM HB (aJ HI0.out)) hb);have BK111:=aD (hbox);have GW111:=aD ((by rw [hg];exact (fS (w:=w) (g:=g) (row:=none) (by repeat (first|(with_reducible first|exact HK.out|apply bQ|apply cD|apply cK|apply cE|refine cO ?_ GW101.out _)|exact HK.out))):w.heap.size≤gb111));have GE111:=aD ((Nat.le_trans HW0.out (by rw [hg];exact (fS (w:=w) (g:=g) (row:=none) (by repeat (first|(with_reducible first|exact HK.out|apply bQ|apply cD|apply cK|apply cE|refine cO ?_ GW101.out _)|exact HK.out))):w.heap.size≤gb111):w0.heap.size≤gb111));replace HK:=aD (dO.trans (by repeat (first|(with_reducible first|exact HK.out|apply bQ|apply cD|apply cK|apply cE|refine cO ?_ GW101.out _)|exact HK.out)) (eP hb g none) (.inl rfl));have NB101_111:=aD ((bW BK101 hg));have NB111_101:=aD ((bX BK101 hg));replace BK101:=aD (aU BK101 hb);have NB0_111:=aD ((by rw [hg];exact Nat.ne_of_lt (bF (show aX w0 _ g s0_0 t109 t110 from aR HI0)):g≠gb111));have NB111_0:=aD ((by rw [hg];exact Nat.ne_of_gt (bF (show aX w0 _ g s0_0 t109 t110 from aR HI0)):gb111≠g));replace HI0:=aD (aX.below (aR HI0) hb);clear hb hbox hg;have hnb29:=NB111_101.out;have hnc29:=NB101_111.out;have hnb30:=NB111_0.out;have hnc30:=NB0_111.out;have hcz31_0:=aT BK111 0;have hcz31_1:=aT BK111 1;have hcz31_2:=aT BK111 2;have hfz31_0:=aC BK111.out 0;have hfz31_1:=aC BK111.out 1;have hfz31_2:=aC BK111.out 2)|((with_reducible refine aV (f:=107) rfl ?_);refine bK (some 15) Try.func107 #[.pointer (some ⟨g,0,none⟩),.int .i64 16] ?_;(with_reducible refine (cI g s0_0 t109 t110 16 false t113 t114 w0 _ ?side1 ?side2 A5.out).mono ?_);(case side1=>exact aR HI0);(case side2=>exact cM HB (aJ HI0.out));rintro e w32 ⟨rfl,hi,hb,hk⟩;refine ⟨_,rfl,?_⟩;replace BK101:=aD (dO.blk hk (g':=gb101) (o:=.cells #[.int .i64 0,.int .i64 0,.int .i64 0] 72 (0,0)) (eW BK101) NB101_0.out (by simp));replace BK111:=aD (dO.blk hk (g':=gb111) (o:=.cells #[.int .i64 (wrap64 (t102-4)),.int .i64 (wrap64 (t105-4)),.int .i64 (wrap64 (t108-2))] 72 (0,0)) (eW BK111) NB111_0.out (by simp));replace HK:=aD (dO.trans (by repeat (first|(with_reducible first|exact HK.out|apply bQ|apply cD|apply cK|apply cE|refine cO ?_ GW101.out _|refine cO ?_ GW111.out _)|exact HK.out)) hk (.inl rfl));replace HB:=aD (hb);replace HI0:=aD (hi);(try clear hb);(try clear hk);(try clear hi);have hcz33_0:=aT BK111 0;have hcz33_1:=aT BK111 1;have hcz33_2:=aT BK111 2;have hfz33_0:=aC BK111.out 0;have hfz33_1:=aC BK111.out 1;have hfz33_2:=aC BK111.out 2;have hnb34:=NB101_0.out;have hnc34:=NB0_101.out;have hcz35_0:=aT BK101 0;have hcz35_1:=aT BK101 1;have hcz35_2:=aT BK101 2;have hfz35_0:=aC BK101.out 0;have hfz35_1:=aC BK101.out 1;have hfz35_2:=aC BK101.out 2))
  refine bodyPost_ret (results_cell_row rfl _ _ gb101 72 #[.int .i64 (wrap64 (t102-4)),.int .i64 (wrap64 (t105-4)),.int .i64 (wrap64 (t108-2))] (0,0) _ rfl (eW BK101) Try.underlying72 rfl (by kernel_rfl)) rfl ?_
  exact ⟨dA,aR HI0,cM HB (aJ HI0.out),by repeat (first|(with_reducible first|exact HK.out|apply bQ|apply cD|apply cK|apply cE|refine cO ?_ GW101.out _|refine cO ?_ GW111.out _)|exact HK.out)⟩
/-! ### spec_DrawCrossOf: function 76 -/
def spec_DrawCrossOf.f (k:Nat) (l0:List Int):Option (Int×Int×Int×Int×Int×Int):=(spec_l1New.f k l0).bind fun bt103=>((spec_l26Draw.f bt103.1 bt103.2.1 bt103.2.2).bind fun bt107=>((spec_l1Once.f bt103.1 bt107.2.2.2.1 bt107.2.2.2.2 5).bind fun bt113=>(if bt113.1=true then (some (bt107.1,bt107.2.1,bt107.2.2.1,wrap64 (-bt107.1),wrap64 (-bt107.2.1),wrap64 (-bt107.2.2.1))) else ((spec_l26Draw.f bt103.1 bt113.2.1 bt113.2.2).bind fun bt116=>(some (bt107.1,bt107.2.1,bt107.2.2.1,bt116.1,bt116.2.1,bt116.2.2.1))))))
def kN:Bool×List (List Nat×List Nat):=(true,[([],[]),([],[]),([1],[1]),([2],[2]),([],[]),([4],[4]),([5],[5]),([],[]),([7],[7]),([8],[8]),([3,6,9],[3,6,9]),([0,0],[0]),([10,11,0,1,2,3,4,5,6,7,8,9,10,11],[10])])
def pS:List Nat:=[0,0,2,6,0,16,48,0,128,384,1022,1,4095]
theorem nH:gK .any (iQ Try.f76 4)=kN:=by kernel_rfl
theorem nM:eU kN.2 pS=true:=by kernel_rfl
set_option maxHeartbeats 8000000 in
set_option maxRecDepth 100000 in
theorem nN (k:Nat) (A0:Option Addr) (c0:Nat) (l0:List Int) (r1:Int) (r2:Int) (r3:Int) (r4:Int) (r5:Int) (r6:Int) (w:World) (hr0:Kd.C (Kd.int .u8) w A0 l0.length l0) (hc0:l0.length≤c0) (h:spec_DrawCrossOf.f k l0=some (r1,r2,r3,r4,r5,r6)) :
  Calls Try.prog 76 #[.slice A0 l0.length c0] w fun e w'=>e=.returned (.tuple #[.agg #[.int .i64 r1,.int .i64 r2,.int .i64 r3],.agg #[.int .i64 r4,.int .i64 r5,.int .i64 r6]])∧Below w.heap.size w w':=by
 have hu72:=Try.underlying72
 have HR0:=aD hr0
 have HC0:=aD hc0
 clear hr0 hc0
 have HB:=aD (Below.refl w.heap.size w)
 unfold spec_DrawCrossOf.f at h
 have H:=h
 clear h
 replace H:=fQ H
 obtain ⟨⟨t103,t104,t105⟩,A2,H⟩:=H
 try dsimp only at H
 replace H:=fQ H
 obtain ⟨⟨t107,t108,t109,t110,t111⟩,A3,H⟩:=H
 try dsimp only at H
 replace H:=fQ H
 obtain ⟨⟨t113,t114,t115⟩,A4,H⟩:=H
 try dsimp only at H
 by_cases c5:t113=true
 ·subst c5
  rw [if_pos rfl] at H
  simp only [Option.some.injEq,Prod.mk.injEq] at H
  obtain ⟨rfl,rfl,rfl,rfl,rfl,rfl⟩:=H
  go_enter Try.func76,Try.ntmps76
  try go_wp2_with (first|((with_reducible refine aW (N:=2) rfl ?_);refine bS (N:=2) #[.int .i64 0,.int .i64 0,.int .i64 0] 72 ?_;intro gb101 hg w6 hbox hb;have BK101:=aD (hbox);have GW101:=aD ((cZ HB hg));have GE101:=aD ((cZ HB hg));replace HB:=aD (aE (bM HB) hb);clear hb hbox hg)|((with_reducible refine aW (N:=3) rfl ?_);refine bS (N:=3) #[.int .i64 0,.int .i64 0,.int .i64 0] 72 ?_;intro gb102 hg w7 hbox hb;have BK102:=aD (hbox);have GW102:=aD ((cZ HB hg));have GE102:=aD ((cZ HB hg));replace HB:=aD (aE (bM HB) hb);have NB101_102:=aD ((bW BK101 hg));have NB102_101:=aD ((bX BK101 hg));replace BK101:=aD (aU BK101 hb);clear hb hbox hg)|((with_reducible refine aV (f:=99) rfl ?_);refine bK (some 7) Try.func99 #[.slice A0 l0.length c0] ?_;(with_reducible refine (fI k _ _ l0 t103 t104 t105 w _ ?side1 ?side2 ?side3 A2.out).mono ?_);(case side1=>exact bM HB);(case side2=>exact HR0.out);(case side3=>exact HC0.out);rintro e w8 ⟨g106,rfl,hi,hb,hb2⟩;refine ⟨_,rfl,?_⟩;replace HB:=aD (hb);have HI106:=aD (hi);have NB106_101:=aD (bV hi (bG (g:=gb101) (o:=.cells #[.int .i64 0,.int .i64 0,.int .i64 0] 72 (0,0)) (cF BK101) hb2) (by decide));have NB101_106:=aD (Ne.symm (bV hi (bG (g:=gb101) (o:=.cells #[.int .i64 0,.int .i64 0,.int .i64 0] 72 (0,0)) (cF BK101) hb2) (by decide)));replace BK101:=aD (bG (g:=gb101) (o:=.cells #[.int .i64 0,.int .i64 0,.int .i64 0] 72 (0,0)) (cF BK101) hb2);have NB106_102:=aD (bV hi (bG (g:=gb102) (o:=.cells #[.int .i64 0,.int .i64 0,.int .i64 0] 72 (0,0)) (cF BK102) hb2) (by decide));have NB102_106:=aD (Ne.symm (bV hi (bG (g:=gb102) (o:=.cells #[.int .i64 0,.int .i64 0,.int .i64 0] 72 (0,0)) (cF BK102) hb2) (by decide)));replace BK102:=aD (bG (g:=gb102) (o:=.cells #[.int .i64 0,.int .i64 0,.int .i64 0] 72 (0,0)) (cF BK102) hb2);(try clear hb);(try clear hb2);(try clear hk);(try clear hi))|((with_reducible refine aV (f:=135) rfl ?_);refine bK (some 9) Try.func135 #[.pointer (some ⟨g106,0,none⟩)] ?_;(with_reducible refine (eI g106 t103 t104 t105 t107 t108 t109 t110 t111 w _ ?side1 ?side2 A3.out).mono ?_);(case side1=>exact aR HI106);(case side2=>exact cM HB (aJ HI106.out));rintro e w9 ⟨rfl,hi,hb,hk⟩;refine ⟨_,rfl,?_⟩;replace BK101:=aD (dO.blk hk (g':=gb101) (o:=.cells #[.int .i64 0,.int .i64 0,.int .i64 0] 72 (0,0)) (cF BK101) NB101_106.out (by simp));replace BK102:=aD (dO.blk hk (g':=gb102) (o:=.cells #[.int .i64 0,.int .i64 0,.int .i64 0] 72 (0,0)) (cF BK102) NB102_106.out (by simp));replace HB:=aD (hb);replace HI106:=aD (hi);(try clear hb);(try clear hb2);(try clear hk);(try clear hi))|((with_reducible refine aW (N:=5) rfl ?_);refine bS (N:=5) #[.int .i64 0,.int .i64 0,.int .i64 0] 72 ?_;intro gb112 hg w10 hbox hb;have BK112:=aD (hbox);have GW112:=aD ((by rw [hg];exact (aM (cM HB (aJ HI106.out))):w.heap.size≤gb112));have GE112:=aD ((by rw [hg];exact (aM (cM HB (aJ HI106.out))):w.heap.size≤gb112));replace HB:=aD (aE (cM HB (aJ HI106.out)) hb);have NB101_112:=aD ((bW BK101 hg));have NB112_101:=aD ((bX BK101 hg));replace BK101:=aD (aU BK101 hb);have NB102_112:=aD ((bW BK102 hg));have NB112_102:=aD ((bX BK102 hg));replace BK102:=aD (aU BK102 hb);have NB106_112:=aD ((by rw [hg];exact Nat.ne_of_lt (bF (show aX w _ g106 t103 t110 t111 from aR HI106)):g106≠gb112));have NB112_106:=aD ((by rw [hg];exact Nat.ne_of_gt (bF (show aX w _ g106 t103 t110 t111 from aR HI106)):gb112≠g106));replace HI106:=aD (aX.below (aR HI106) hb);clear hb hbox hg;have hnb11:=NB112_101.out;have hnc11:=NB101_112.out;have hnb12:=NB112_102.out;have hnc12:=NB102_112.out;have hnb13:=NB112_106.out;have hnc13:=NB106_112.out;have hcz14_0:=aT BK112 0;have hcz14_1:=aT BK112 1;have hcz14_2:=aT BK112 2;have hfz14_0:=aC BK112.out 0;have hfz14_1:=aC BK112.out 1;have hfz14_2:=aC BK112.out 2)|((with_reducible refine aV (f:=107) rfl ?_);refine bK (some 11) Try.func107 #[.pointer (some ⟨g106,0,none⟩),.int .i64 5] ?_;(with_reducible refine (cI g106 t103 t110 t111 5 true t114 t115 w _ ?side1 ?side2 A4.out).mono ?_);(case side1=>exact aR HI106);(case side2=>exact cM HB (aJ HI106.out));rintro e w15 ⟨rfl,hi,hb,hk⟩;refine ⟨_,rfl,?_⟩;replace BK101:=aD (dO.blk hk (g':=gb101) (o:=.cells #[.int .i64 0,.int .i64 0,.int .i64 0] 72 (0,0)) (eW BK101) NB101_106.out (by simp));replace BK102:=aD (dO.blk hk (g':=gb102) (o:=.cells #[.int .i64 0,.int .i64 0,.int .i64 0] 72 (0,0)) (eW BK102) NB102_106.out (by simp));replace BK112:=aD (dO.blk hk (g':=gb112) (o:=.cells #[.int .i64 t107,.int .i64 t108,.int .i64 t109] 72 (0,0)) (eW BK112) NB112_106.out (by simp));replace HB:=aD (hb);replace HI106:=aD (hi);(try clear hb);(try clear hb2);(try clear hk);(try clear hi)))
  replace BK101:=aD (aK BK101.out)
  replace BK102:=aD (aK BK102.out)
  replace BK112:=aD (aK BK112.out)
  replace HI106:=aD (aX.drew HI106.out)
  replace HB:=aD (lC HB.out)
  refine eE (n:=13) (S:=fun w'=>w'.cell? ⟨gb112,0,none⟩=some (.int .i64 t107)∧w'.cell? ⟨gb112,1,none⟩=some (.int .i64 t108)∧w'.cell? ⟨gb112,2,none⟩=some (.int .i64 t109)) (ds:=[]) (bm 13 0) (by kernel_rfl) rfl rfl ⟨aT BK112 0,aT BK112 1,aT BK112 2⟩ (fun hHeld=>?_);refine cX nH nM (fun HT_ HW_=>?_)
  generalize w15.drew=w16 at BK101 BK102 BK112 HI106 HB hHeld ⊢
  refine dG ((0,1,13,2)::(0,4,16,18)::(0,7,19,146)::(2,0,12,147)::(2,2,14,151)::(0,3,15,159)::(2,5,17,191)::(0,6,18,255)::(2,8,20,511)::(0,9,21,1023)::(0,10,22,2047)::[]) ?_
  iterate 11 (first|refine jT HT_ ?_|refine qB HT_ HW_ hHeld ?_)
  refine bL ?_
  refine cS (i:=11) (N:=none) (bm 13 4095) rfl rfl (bI HT_.out (by kernel_rfl)) (by decide) (fun K hK=>?_)
  have hs17:w16.cell? ⟨gb101,0,none⟩=some (.int .i64 0):=aT BK101 0
  have hfs17:=aC BK101.out 0
  have hns17_1:=NB102_101.out
  have hns17_2:=NB112_101.out
  have hms17_1:=NB101_102.out
  have hms17_2:=NB101_112.out
  have hs18:w16.cell? ⟨gb101,1,none⟩=some (.int .i64 0):=aT BK101 1
  have hfs18:=aC BK101.out 1
  have hns18_1:=NB102_101.out
  have hns18_2:=NB112_101.out
  have hms18_1:=NB101_102.out
  have hms18_2:=NB101_112.out
  have hs19:w16.cell? ⟨gb101,2,none⟩=some (.int .i64 0):=aT BK101 2
  have hfs19:=aC BK101.out 2
  have hns19_1:=NB102_101.out
  have hns19_2:=NB112_101.out
  have hms19_1:=NB101_102.out
  have hms19_2:=NB101_112.out
  refine fW (w1:=?_) (by rfl) rfl ?_ ?_
  rotate_left
  ·go_simp
   rfl
  refine hK.out _ _ ⟨(cU NB112_101 ((cU NB112_101 ((cU NB112_101 hHeld.1))))),(cU NB112_101 ((cU NB112_101 ((cU NB112_101 hHeld.2.1))))),(cU NB112_101 ((cU NB112_101 ((cU NB112_101 hHeld.2.2)))))⟩ (fun hHeld=>?_)
  clear hK K
  refine cS (i:=12) (N:=none) (bm 13 8191) rfl rfl (bI HT_.out (by kernel_rfl)) (by decide) (fun K hK=>?_)
  have hs20:w16.cell? ⟨gb102,0,none⟩=some (.int .i64 0):=aT BK102 0
  have hfs20:=aC BK102.out 0
  have hns20_0:=NB101_102.out
  have hns20_2:=NB112_102.out
  have hms20_0:=NB102_101.out
  have hms20_2:=NB102_112.out
  have hs21:w16.cell? ⟨gb102,1,none⟩=some (.int .i64 0):=aT BK102 1
  have hfs21:=aC BK102.out 1
  have hns21_0:=NB101_102.out
  have hns21_2:=NB112_102.out
  have hms21_0:=NB102_101.out
  have hms21_2:=NB102_112.out
  have hs22:w16.cell? ⟨gb102,2,none⟩=some (.int .i64 0):=aT BK102 2
  have hfs22:=aC BK102.out 2
  have hns22_0:=NB101_102.out
  have hns22_2:=NB112_102.out
  have hms22_0:=NB102_101.out
  have hms22_2:=NB102_112.out
  refine fW (w1:=?_) (by rfl) rfl ?_ ?_
  rotate_left
  ·go_simp
   rfl
  refine hK.out _ _ ⟨(cU NB112_102 ((cU NB112_102 ((cU NB112_102 hHeld.1))))),(cU NB112_102 ((cU NB112_102 ((cU NB112_102 hHeld.2.1))))),(cU NB112_102 ((cU NB112_102 ((cU NB112_102 hHeld.2.2)))))⟩ (fun hHeld=>?_)
  clear hK K
  refine dD (dZ HT_.out (by kernel_rfl)) ?_
  try go_wp2
  refine bodyPost_ret (tN rfl _ _ gb101 gb102 72 72 #[.int .i64 t107,.int .i64 t108,.int .i64 t109] #[.int .i64 (wrap64 (-t107)),.int .i64 (wrap64 (-t108)),.int .i64 (wrap64 (-t109))] (0,0) (0,0) _ _ rfl (eW BK101) Try.underlying72 rfl (by kernel_rfl) rfl (by (with_reducible repeat (first|refine aQ ?_ _|refine aK ?_|refine aN ?_ _));refine cJ (cs:=#[.int .i64 (wrap64 (-t107)),.int .i64 (wrap64 (-t108)),.int .i64 0]) ?_ 2 _ rfl;(with_reducible repeat (first|refine aQ ?_ _|refine aK ?_|refine aN ?_ _));refine cJ (cs:=#[.int .i64 (wrap64 (-t107)),.int .i64 0,.int .i64 0]) ?_ 1 _ rfl;(with_reducible repeat (first|refine aQ ?_ _|refine aK ?_|refine aN ?_ _));refine cJ (cs:=#[.int .i64 0,.int .i64 0,.int .i64 0]) ?_ 0 _ rfl;(with_reducible repeat (first|refine aQ ?_ _|refine aK ?_|refine aN ?_ _));refine bD ?_ NB102_101.out _;(with_reducible repeat (first|refine aQ ?_ _|refine aK ?_|refine aN ?_ _));refine bD ?_ NB102_101.out _;(with_reducible repeat (first|refine aQ ?_ _|refine aK ?_|refine aN ?_ _));refine bD ?_ NB102_101.out _;(with_reducible repeat (first|refine aQ ?_ _|refine aK ?_|refine aN ?_ _));exact BK102.out) Try.underlying72 rfl (by kernel_rfl)) rfl ?_
  exact ⟨dA,cM HB (aJ HI106.out)⟩
 ·replace c5:=Bool.eq_false_iff.mpr c5
  subst c5
  rw [if_neg (show ¬ (false=true) by decide)] at H
  replace H:=fQ H
  obtain ⟨⟨t116,t117,t118,t119,t120⟩,A23,H⟩:=H
  try dsimp only at H
  simp only [Option.some.injEq,Prod.mk.injEq] at H
  obtain ⟨rfl,rfl,rfl,rfl,rfl,rfl⟩:=H
  go_enter Try.func76,Try.ntmps76
  try go_wp2_with (first|((with_reducible refine aW (N:=2) rfl ?_);refine bS (N:=2) #[.int .i64 0,.int .i64 0,.int .i64 0] 72 ?_;intro gb101 hg w24 hbox hb;have BK101:=aD (hbox);have GW101:=aD ((cZ HB hg));have GE101:=aD ((cZ HB hg));replace HB:=aD (aE (bM HB) hb);clear hb hbox hg)|((with_reducible refine aW (N:=3) rfl ?_);refine bS (N:=3) #[.int .i64 0,.int .i64 0,.int .i64 0] 72 ?_;intro gb102 hg w25 hbox hb;have BK102:=aD (hbox);have GW102:=aD ((cZ HB hg));have GE102:=aD ((cZ HB hg));replace HB:=aD (aE (bM HB) hb);have NB101_102:=aD ((bW BK101 hg));have NB102_101:=aD ((bX BK101 hg));replace BK101:=aD (aU BK101 hb);clear hb hbox hg)|((with_reducible refine aV (f:=99) rfl ?_);refine bK (some 7) Try.func99 #[.slice A0 l0.length c0] ?_;(with_reducible refine (fI k _ _ l0 t103 t104 t105 w _ ?side1 ?side2 ?side3 A2.out).mono ?_);(case side1=>exact bM HB);(case side2=>exact HR0.out);(case side3=>exact HC0.out);rintro e w26 ⟨g106,rfl,hi,hb,hb2⟩;refine ⟨_,rfl,?_⟩;replace HB:=aD (hb);have HI106:=aD (hi);have NB106_101:=aD (bV hi (bG (g:=gb101) (o:=.cells #[.int .i64 0,.int .i64 0,.int .i64 0] 72 (0,0)) (cF BK101) hb2) (by decide));have NB101_106:=aD (Ne.symm (bV hi (bG (g:=gb101) (o:=.cells #[.int .i64 0,.int .i64 0,.int .i64 0] 72 (0,0)) (cF BK101) hb2) (by decide)));replace BK101:=aD (bG (g:=gb101) (o:=.cells #[.int .i64 0,.int .i64 0,.int .i64 0] 72 (0,0)) (cF BK101) hb2);have NB106_102:=aD (bV hi (bG (g:=gb102) (o:=.cells #[.int .i64 0,.int .i64 0,.int .i64 0] 72 (0,0)) (cF BK102) hb2) (by decide));have NB102_106:=aD (Ne.symm (bV hi (bG (g:=gb102) (o:=.cells #[.int .i64 0,.int .i64 0,.int .i64 0] 72 (0,0)) (cF BK102) hb2) (by decide)));replace BK102:=aD (bG (g:=gb102) (o:=.cells #[.int .i64 0,.int .i64 0,.int .i64 0] 72 (0,0)) (cF BK102) hb2);(try clear hb);(try clear hb2);(try clear hk);(try clear hi))|((with_reducible refine aV (f:=135) rfl ?_);refine bK (some 9) Try.func135 #[.pointer (some ⟨g106,0,none⟩)] ?_;(with_reducible refine (eI g106 t103 t104 t105 t107 t108 t109 t110 t111 w _ ?side1 ?side2 A3.out).mono ?_);(case side1=>exact aR HI106);(case side2=>exact cM HB (aJ HI106.out));rintro e w27 ⟨rfl,hi,hb,hk⟩;refine ⟨_,rfl,?_⟩;replace BK101:=aD (dO.blk hk (g':=gb101) (o:=.cells #[.int .i64 0,.int .i64 0,.int .i64 0] 72 (0,0)) (cF BK101) NB101_106.out (by simp));replace BK102:=aD (dO.blk hk (g':=gb102) (o:=.cells #[.int .i64 0,.int .i64 0,.int .i64 0] 72 (0,0)) (cF BK102) NB102_106.out (by simp));replace HB:=aD (hb);replace HI106:=aD (hi);(try clear hb);(try clear hb2);(try clear hk);(try clear hi))|((with_reducible refine aW (N:=5) rfl ?_);refine bS (N:=5) #[.int .i64 0,.int .i64 0,.int .i64 0] 72 ?_;intro gb112 hg w28 hbox hb;have BK112:=aD (hbox);have GW112:=aD ((by rw [hg];exact (aM (cM HB (aJ HI106.out))):w.heap.size≤gb112));have GE112:=aD ((by rw [hg];exact (aM (cM HB (aJ HI106.out))):w.heap.size≤gb112));replace HB:=aD (aE (cM HB (aJ HI106.out)) hb);have NB101_112:=aD ((bW BK101 hg));have NB112_101:=aD ((bX BK101 hg));replace BK101:=aD (aU BK101 hb);have NB102_112:=aD ((bW BK102 hg));have NB112_102:=aD ((bX BK102 hg));replace BK102:=aD (aU BK102 hb);have NB106_112:=aD ((by rw [hg];exact Nat.ne_of_lt (bF (show aX w _ g106 t103 t110 t111 from aR HI106)):g106≠gb112));have NB112_106:=aD ((by rw [hg];exact Nat.ne_of_gt (bF (show aX w _ g106 t103 t110 t111 from aR HI106)):gb112≠g106));replace HI106:=aD (aX.below (aR HI106) hb);clear hb hbox hg;have hnb29:=NB112_101.out;have hnc29:=NB101_112.out;have hnb30:=NB112_102.out;have hnc30:=NB102_112.out;have hnb31:=NB112_106.out;have hnc31:=NB106_112.out;have hcz32_0:=aT BK112 0;have hcz32_1:=aT BK112 1;have hcz32_2:=aT BK112 2;have hfz32_0:=aC BK112.out 0;have hfz32_1:=aC BK112.out 1;have hfz32_2:=aC BK112.out 2)|((with_reducible refine aV (f:=107) rfl ?_);refine bK (some 11) Try.func107 #[.pointer (some ⟨g106,0,none⟩),.int .i64 5] ?_;(with_reducible refine (cI g106 t103 t110 t111 5 false t114 t115 w _ ?side1 ?side2 A4.out).mono ?_);(case side1=>exact aR HI106);(case side2=>exact cM HB (aJ HI106.out));rintro e w33 ⟨rfl,hi,hb,hk⟩;refine ⟨_,rfl,?_⟩;replace BK101:=aD (dO.blk hk (g':=gb101) (o:=.cells #[.int .i64 0,.int .i64 0,.int .i64 0] 72 (0,0)) (eW BK101) NB101_106.out (by simp));replace BK102:=aD (dO.blk hk (g':=gb102) (o:=.cells #[.int .i64 0,.int .i64 0,.int .i64 0] 72 (0,0)) (eW BK102) NB102_106.out (by simp));replace BK112:=aD (dO.blk hk (g':=gb112) (o:=.cells #[.int .i64 t107,.int .i64 t108,.int .i64 t109] 72 (0,0)) (eW BK112) NB112_106.out (by simp));replace HB:=aD (hb);replace HI106:=aD (hi);(try clear hb);(try clear hb2);(try clear hk);(try clear hi)))
  replace BK101:=aD (aK BK101.out)
  replace BK102:=aD (aK BK102.out)
  replace BK112:=aD (aK BK112.out)
  replace HI106:=aD (aX.drew HI106.out)
  replace HB:=aD (lC HB.out)
  refine eE (n:=5) (S:=fun w'=>w'.cell? ⟨gb112,0,none⟩=some (.int .i64 t107)∧w'.cell? ⟨gb112,1,none⟩=some (.int .i64 t108)∧w'.cell? ⟨gb112,2,none⟩=some (.int .i64 t109)) (ds:=[]) (bm 5 0) (by kernel_rfl) rfl rfl ⟨aT BK112 0,aT BK112 1,aT BK112 2⟩ (fun hHeld=>?_)
  generalize w33.drew=w34 at BK101 BK102 BK112 HI106 HB hHeld ⊢
  refine jY (i:=1) (N:=some 24) (v:=?_) (a':=?_) (bm 5 2) rfl rfl (by kernel_rfl) (fun _ _ _ h=>h) (Or.inl ⟨by rfl,?_⟩) ?_ ?_
  rotate_left
  ·intro w'
   go_simp
   with_reducible rfl
  rotate_left
  ·simp only [Act.put,List.setIfInBounds_toArray,List.set_cons_zero,List.set_cons_succ,aZ,bB]
   rfl
  refine pW (i:=0) (N:=some 23) (v:=?_) (a':=?_) (bm 5 3) rfl rfl (by kernel_rfl) (fun _ _ _ h=>h) (Or.inl ⟨by rfl,?_⟩) hHeld ?_ ?_
  rotate_left
  ·rintro w' ⟨s0,s1,s2⟩
   go_simp
   with_reducible rfl
  rotate_left
  ·simp only [Act.put,List.setIfInBounds_toArray,List.set_cons_zero,List.set_cons_succ,aZ,bB]
   rfl
  refine cS (i:=2) (N:=some 25) (bm 5 7) rfl rfl (by kernel_rfl) (by decide) (fun K hK=>?_)
  refine bP Try.func135 #[.pointer (some ⟨g106,0,none⟩)] ?_
  with_reducible refine (eI g106 t103 t114 t115 t116 t117 t118 t119 t120 w _ ?side1 ?side2 A23.out).mono ?_
  (case side1=>exact aR HI106)
  (case side2=>exact cM HB (aJ HI106.out))
  rintro e w35 ⟨rfl,hi,hb,hk⟩
  refine ⟨_,rfl,?_⟩
  replace BK101:=aD (dO.blk hk (g':=gb101) (o:=.cells #[.int .i64 0,.int .i64 0,.int .i64 0] 72 (0,0)) (cF BK101) NB101_106.out (by simp))
  replace BK102:=aD (dO.blk hk (g':=gb102) (o:=.cells #[.int .i64 0,.int .i64 0,.int .i64 0] 72 (0,0)) (cF BK102) NB102_106.out (by simp))
  replace BK112:=aD (dO.blk hk (g':=gb112) (o:=.cells #[.int .i64 t107,.int .i64 t108,.int .i64 t109] 72 (0,0)) (cF BK112) NB112_106.out (by simp))
  replace HB:=aD (hb)
  replace HI106:=aD (hi)
  (try clear hb)
  (try clear hb2)
  (try clear hk)
  (try clear hi)
  refine hK.out _ _ ⟨aT BK112 0,aT BK112 1,aT BK112 2⟩ (fun hHeld=>?_)
  clear hK K
  refine wH ?_
  refine cS (i:=3) (N:=none) (bm 5 15) rfl rfl (by kernel_rfl) (by decide) (fun K hK=>?_)
  have hs36:w35.cell? ⟨gb101,0,none⟩=some (.int .i64 0):=aT BK101 0
  have hfs36:=aC BK101.out 0
  have hns36_1:=NB102_101.out
  have hns36_2:=NB112_101.out
  have hms36_1:=NB101_102.out
  have hms36_2:=NB101_112.out
  have hs37:w35.cell? ⟨gb101,1,none⟩=some (.int .i64 0):=aT BK101 1
  have hfs37:=aC BK101.out 1
  have hns37_1:=NB102_101.out
  have hns37_2:=NB112_101.out
  have hms37_1:=NB101_102.out
  have hms37_2:=NB101_112.out
  have hs38:w35.cell? ⟨gb101,2,none⟩=some (.int .i64 0):=aT BK101 2
  have hfs38:=aC BK101.out 2
  have hns38_1:=NB102_101.out
  have hns38_2:=NB112_101.out
  have hms38_1:=NB101_102.out
  have hms38_2:=NB101_112.out
  refine fW (w1:=?_) (by rfl) rfl ?_ ?_
  rotate_left
  ·go_simp
   rfl
  refine hK.out _ _ ⟨(cU NB112_101 ((cU NB112_101 ((cU NB112_101 hHeld.1))))),(cU NB112_101 ((cU NB112_101 ((cU NB112_101 hHeld.2.1))))),(cU NB112_101 ((cU NB112_101 ((cU NB112_101 hHeld.2.2)))))⟩ (fun hHeld=>?_)
  clear hK K
  refine cS (i:=4) (N:=none) (bm 5 31) rfl rfl (by kernel_rfl) (by decide) (fun K hK=>?_)
  have hs39:w35.cell? ⟨gb102,0,none⟩=some (.int .i64 0):=aT BK102 0
  have hfs39:=aC BK102.out 0
  have hns39_0:=NB101_102.out
  have hns39_2:=NB112_102.out
  have hms39_0:=NB102_101.out
  have hms39_2:=NB102_112.out
  have hs40:w35.cell? ⟨gb102,1,none⟩=some (.int .i64 0):=aT BK102 1
  have hfs40:=aC BK102.out 1
  have hns40_0:=NB101_102.out
  have hns40_2:=NB112_102.out
  have hms40_0:=NB102_101.out
  have hms40_2:=NB102_112.out
  have hs41:w35.cell? ⟨gb102,2,none⟩=some (.int .i64 0):=aT BK102 2
  have hfs41:=aC BK102.out 2
  have hns41_0:=NB101_102.out
  have hns41_2:=NB112_102.out
  have hms41_0:=NB102_101.out
  have hms41_2:=NB102_112.out
  refine fW (w1:=?_) (by rfl) rfl ?_ ?_
  rotate_left
  ·go_simp
   rfl
  refine hK.out _ _ ⟨(cU NB112_102 ((cU NB112_102 ((cU NB112_102 hHeld.1))))),(cU NB112_102 ((cU NB112_102 ((cU NB112_102 hHeld.2.1))))),(cU NB112_102 ((cU NB112_102 ((cU NB112_102 hHeld.2.2)))))⟩ (fun hHeld=>?_)
  clear hK K
  refine dD (by kernel_rfl) ?_
  try go_wp2
  refine bodyPost_ret (tN rfl _ _ gb101 gb102 72 72 #[.int .i64 t107,.int .i64 t108,.int .i64 t109] #[.int .i64 t116,.int .i64 t117,.int .i64 t118] (0,0) (0,0) _ _ rfl (eW BK101) Try.underlying72 rfl (by kernel_rfl) rfl (by (with_reducible repeat (first|refine aQ ?_ _|refine aK ?_|refine aN ?_ _));refine cJ (cs:=#[.int .i64 t116,.int .i64 t117,.int .i64 0]) ?_ 2 _ rfl;(with_reducible repeat (first|refine aQ ?_ _|refine aK ?_|refine aN ?_ _));refine cJ (cs:=#[.int .i64 t116,.int .i64 0,.int .i64 0]) ?_ 1 _ rfl;(with_reducible repeat (first|refine aQ ?_ _|refine aK ?_|refine aN ?_ _));refine cJ (cs:=#[.int .i64 0,.int .i64 0,.int .i64 0]) ?_ 0 _ rfl;(with_reducible repeat (first|refine aQ ?_ _|refine aK ?_|refine aN ?_ _));refine bD ?_ NB102_101.out _;(with_reducible repeat (first|refine aQ ?_ _|refine aK ?_|refine aN ?_ _));refine bD ?_ NB102_101.out _;(with_reducible repeat (first|refine aQ ?_ _|refine aK ?_|refine aN ?_ _));refine bD ?_ NB102_101.out _;(with_reducible repeat (first|refine aQ ?_ _|refine aK ?_|refine aN ?_ _));exact BK102.out) Try.underlying72 rfl (by kernel_rfl)) rfl ?_
  exact ⟨dA,cM HB (aJ HI106.out)⟩
/-! ### spec_DrawAreOnOne: function 78 -/
def spec_DrawAreOnOne.f (k:Nat) (l0:List Int):Option (Int×Int×Int×Int×Int×Int×Int×Int×Int):=(spec_l1New.f k l0).bind fun bt104=>((spec_l26Draw.f bt104.1 bt104.2.1 bt104.2.2).bind fun bt108=>((spec_l26Draw.f bt104.1 bt108.2.2.2.1 bt108.2.2.2.2).bind fun bt114=>((spec_l1Once.f bt104.1 bt114.2.2.2.1 bt114.2.2.2.2 2).bind fun bt120=>(if bt120.1=true then (some (bt108.1,bt108.2.1,bt108.2.2.1,bt114.1,bt114.2.1,bt114.2.2.1,wrap64 (bt108.1+bt114.1),wrap64 (bt108.2.1+bt114.2.1),wrap64 (bt108.2.2.1+bt114.2.2.1))) else ((spec_l26Draw.f bt104.1 bt120.2.1 bt120.2.2).bind fun bt123=>(some (bt108.1,bt108.2.1,bt108.2.2.1,bt114.1,bt114.2.1,bt114.2.2.1,bt123.1,bt123.2.1,bt123.2.2.1)))))))
def kA:Bool×List (List Nat×List Nat):=(true,[([],[]),([],[]),([],[]),([2],[2]),([],[]),([4],[4]),([3,5],[3,5]),([],[]),([7],[7]),([],[]),([9],[9]),([8,10],[8,10]),([],[]),([12],[12]),([],[]),([14],[14]),([13,15],[13,15]),([6,11,16],[6,11,16]),([0,0],[0]),([1,18,0,1,18],[1]),([17,19,0,1,2,3,4,5,6,7,8,9,10,11,12,13,14,15,16,17,18,19],[17])])
def oP:List Nat:=[0,0,0,4,0,16,60,0,128,0,512,1920,0,4096,0,16384,61440,131068,1,262147,1048575]
theorem nO:gK .any (iQ Try.f78 5)=kA:=by kernel_rfl
theorem mL:eU kA.2 oP=true:=by kernel_rfl
set_option maxHeartbeats 8000000 in
set_option maxRecDepth 100000 in
theorem mM (k:Nat) (A0:Option Addr) (c0:Nat) (l0:List Int) (r1:Int) (r2:Int) (r3:Int) (r4:Int) (r5:Int) (r6:Int) (r7:Int) (r8:Int) (r9:Int) (w:World) (hr0:Kd.C (Kd.int .u8) w A0 l0.length l0) (hc0:l0.length≤c0) (h:spec_DrawAreOnOne.f k l0=some (r1,r2,r3,r4,r5,r6,r7,r8,r9)) :
  Calls Try.prog 78 #[.slice A0 l0.length c0] w fun e w'=>e=.returned (.tuple #[.agg #[.int .i64 r1,.int .i64 r2,.int .i64 r3],.agg #[.int .i64 r4,.int .i64 r5,.int .i64 r6],.agg #[.int .i64 r7,.int .i64 r8,.int .i64 r9]])∧Below w.heap.size w w':=by
 have hu72:=Try.underlying72
 have HR0:=aD hr0
 have HC0:=aD hc0
 clear hr0 hc0
 have HB:=aD (Below.refl w.heap.size w)
 unfold spec_DrawAreOnOne.f at h
 have H:=h
 clear h
 replace H:=fQ H
 obtain ⟨⟨t104,t105,t106⟩,A2,H⟩:=H
 try dsimp only at H
 replace H:=fQ H
 obtain ⟨⟨t108,t109,t110,t111,t112⟩,A3,H⟩:=H
 try dsimp only at H
 replace H:=fQ H
 obtain ⟨⟨t114,t115,t116,t117,t118⟩,A4,H⟩:=H
 try dsimp only at H
 replace H:=fQ H
 obtain ⟨⟨t120,t121,t122⟩,A5,H⟩:=H
 try dsimp only at H
 by_cases c6:t120=true
 ·subst c6
  rw [if_pos rfl] at H
  simp only [Option.some.injEq,Prod.mk.injEq] at H
  obtain ⟨rfl,rfl,rfl,rfl,rfl,rfl,rfl,rfl,rfl⟩:=H
  go_enter Try.func78,Try.ntmps78
  try go_wp2_with (first|((with_reducible refine aW (N:=2) rfl ?_);refine bS (N:=2) #[.int .i64 0,.int .i64 0,.int .i64 0] 72 ?_;intro gb101 hg w7 hbox hb;have BK101:=aD (hbox);have GW101:=aD ((cZ HB hg));have GE101:=aD ((cZ HB hg));replace HB:=aD (aE (bM HB) hb);clear hb hbox hg)|((with_reducible refine aW (N:=3) rfl ?_);refine bS (N:=3) #[.int .i64 0,.int .i64 0,.int .i64 0] 72 ?_;intro gb102 hg w8 hbox hb;have BK102:=aD (hbox);have GW102:=aD ((cZ HB hg));have GE102:=aD ((cZ HB hg));replace HB:=aD (aE (bM HB) hb);have NB101_102:=aD ((bW BK101 hg));have NB102_101:=aD ((bX BK101 hg));replace BK101:=aD (aU BK101 hb);clear hb hbox hg)|((with_reducible refine aW (N:=4) rfl ?_);refine bS (N:=4) #[.int .i64 0,.int .i64 0,.int .i64 0] 72 ?_;intro gb103 hg w9 hbox hb;have BK103:=aD (hbox);have GW103:=aD ((cZ HB hg));have GE103:=aD ((cZ HB hg));replace HB:=aD (aE (bM HB) hb);have NB101_103:=aD ((bW BK101 hg));have NB103_101:=aD ((bX BK101 hg));replace BK101:=aD (aU BK101 hb);have NB102_103:=aD ((bW BK102 hg));have NB103_102:=aD ((bX BK102 hg));replace BK102:=aD (aU BK102 hb);clear hb hbox hg)|((with_reducible refine aV (f:=99) rfl ?_);refine bK (some 9) Try.func99 #[.slice A0 l0.length c0] ?_;(with_reducible refine (fI k _ _ l0 t104 t105 t106 w _ ?side1 ?side2 ?side3 A2.out).mono ?_);(case side1=>exact bM HB);(case side2=>exact HR0.out);(case side3=>exact HC0.out);rintro e w10 ⟨g107,rfl,hi,hb,hb2⟩;refine ⟨_,rfl,?_⟩;replace HB:=aD (hb);have HI107:=aD (hi);have NB107_101:=aD (bV hi (bG (g:=gb101) (o:=.cells #[.int .i64 0,.int .i64 0,.int .i64 0] 72 (0,0)) (cF BK101) hb2) (by decide));have NB101_107:=aD (Ne.symm (bV hi (bG (g:=gb101) (o:=.cells #[.int .i64 0,.int .i64 0,.int .i64 0] 72 (0,0)) (cF BK101) hb2) (by decide)));replace BK101:=aD (bG (g:=gb101) (o:=.cells #[.int .i64 0,.int .i64 0,.int .i64 0] 72 (0,0)) (cF BK101) hb2);have NB107_102:=aD (bV hi (bG (g:=gb102) (o:=.cells #[.int .i64 0,.int .i64 0,.int .i64 0] 72 (0,0)) (cF BK102) hb2) (by decide));have NB102_107:=aD (Ne.symm (bV hi (bG (g:=gb102) (o:=.cells #[.int .i64 0,.int .i64 0,.int .i64 0] 72 (0,0)) (cF BK102) hb2) (by decide)));replace BK102:=aD (bG (g:=gb102) (o:=.cells #[.int .i64 0,.int .i64 0,.int .i64 0] 72 (0,0)) (cF BK102) hb2);have NB107_103:=aD (bV hi (bG (g:=gb103) (o:=.cells #[.int .i64 0,.int .i64 0,.int .i64 0] 72 (0,0)) (cF BK103) hb2) (by decide));have NB103_107:=aD (Ne.symm (bV hi (bG (g:=gb103) (o:=.cells #[.int .i64 0,.int .i64 0,.int .i64 0] 72 (0,0)) (cF BK103) hb2) (by decide)));replace BK103:=aD (bG (g:=gb103) (o:=.cells #[.int .i64 0,.int .i64 0,.int .i64 0] 72 (0,0)) (cF BK103) hb2);(try clear hb);(try clear hb2);(try clear hk);(try clear hi))|((with_reducible refine aV (f:=135) rfl ?_);refine bK (some 11) Try.func135 #[.pointer (some ⟨g107,0,none⟩)] ?_;(with_reducible refine (eI g107 t104 t105 t106 t108 t109 t110 t111 t112 w _ ?side1 ?side2 A3.out).mono ?_);(case side1=>exact aR HI107);(case side2=>exact cM HB (aJ HI107.out));rintro e w11 ⟨rfl,hi,hb,hk⟩;refine ⟨_,rfl,?_⟩;replace BK101:=aD (dO.blk hk (g':=gb101) (o:=.cells #[.int .i64 0,.int .i64 0,.int .i64 0] 72 (0,0)) (cF BK101) NB101_107.out (by simp));replace BK102:=aD (dO.blk hk (g':=gb102) (o:=.cells #[.int .i64 0,.int .i64 0,.int .i64 0] 72 (0,0)) (cF BK102) NB102_107.out (by simp));replace BK103:=aD (dO.blk hk (g':=gb103) (o:=.cells #[.int .i64 0,.int .i64 0,.int .i64 0] 72 (0,0)) (cF BK103) NB103_107.out (by simp));replace HB:=aD (hb);replace HI107:=aD (hi);(try clear hb);(try clear hb2);(try clear hk);(try clear hi))|((with_reducible refine aW (N:=6) rfl ?_);refine bS (N:=6) #[.int .i64 0,.int .i64 0,.int .i64 0] 72 ?_;intro gb113 hg w12 hbox hb;have BK113:=aD (hbox);have GW113:=aD ((by rw [hg];exact (aM (cM HB (aJ HI107.out))):w.heap.size≤gb113));have GE113:=aD ((by rw [hg];exact (aM (cM HB (aJ HI107.out))):w.heap.size≤gb113));replace HB:=aD (aE (cM HB (aJ HI107.out)) hb);have NB101_113:=aD ((bW BK101 hg));have NB113_101:=aD ((bX BK101 hg));replace BK101:=aD (aU BK101 hb);have NB102_113:=aD ((bW BK102 hg));have NB113_102:=aD ((bX BK102 hg));replace BK102:=aD (aU BK102 hb);have NB103_113:=aD ((bW BK103 hg));have NB113_103:=aD ((bX BK103 hg));replace BK103:=aD (aU BK103 hb);have NB107_113:=aD ((by rw [hg];exact Nat.ne_of_lt (bF (show aX w _ g107 t104 t111 t112 from aR HI107)):g107≠gb113));have NB113_107:=aD ((by rw [hg];exact Nat.ne_of_gt (bF (show aX w _ g107 t104 t111 t112 from aR HI107)):gb113≠g107));replace HI107:=aD (aX.below (aR HI107) hb);clear hb hbox hg;have hnb13:=NB113_101.out;have hnc13:=NB101_113.out;have hnb14:=NB113_102.out;have hnc14:=NB102_113.out;have hnb15:=NB113_103.out;have hnc15:=NB103_113.out;have hnb16:=NB113_107.out;have hnc16:=NB107_113.out;have hcz17_0:=aT BK113 0;have hcz17_1:=aT BK113 1;have hcz17_2:=aT BK113 2;have hfz17_0:=aC BK113.out 0;have hfz17_1:=aC BK113.out 1;have hfz17_2:=aC BK113.out 2)|((with_reducible refine aV (f:=135) rfl ?_);refine bK (some 13) Try.func135 #[.pointer (some ⟨g107,0,none⟩)] ?_;(with_reducible refine (eI g107 t104 t111 t112 t114 t115 t116 t117 t118 w _ ?side1 ?side2 A4.out).mono ?_);(case side1=>exact aR HI107);(case side2=>exact cM HB (aJ HI107.out));rintro e w18 ⟨rfl,hi,hb,hk⟩;refine ⟨_,rfl,?_⟩;replace BK101:=aD (dO.blk hk (g':=gb101) (o:=.cells #[.int .i64 0,.int .i64 0,.int .i64 0] 72 (0,0)) (eW BK101) NB101_107.out (by simp));replace BK102:=aD (dO.blk hk (g':=gb102) (o:=.cells #[.int .i64 0,.int .i64 0,.int .i64 0] 72 (0,0)) (eW BK102) NB102_107.out (by simp));replace BK103:=aD (dO.blk hk (g':=gb103) (o:=.cells #[.int .i64 0,.int .i64 0,.int .i64 0] 72 (0,0)) (eW BK103) NB103_107.out (by simp));replace BK113:=aD (dO.blk hk (g':=gb113) (o:=.cells #[.int .i64 t108,.int .i64 t109,.int .i64 t110] 72 (0,0)) (eW BK113) NB113_107.out (by simp));replace HB:=aD (hb);replace HI107:=aD (hi);(try clear hb);(try clear hb2);(try clear hk);(try clear hi))|((with_reducible refine aW (N:=7) rfl ?_);refine bS (N:=7) #[.int .i64 0,.int .i64 0,.int .i64 0] 72 ?_;intro gb119 hg w19 hbox hb;have BK119:=aD (hbox);have GW119:=aD ((by rw [hg];exact (aM (cM HB (aJ HI107.out))):w.heap.size≤gb119));have GE119:=aD ((by rw [hg];exact (aM (cM HB (aJ HI107.out))):w.heap.size≤gb119));replace HB:=aD (aE (cM HB (aJ HI107.out)) hb);have NB101_119:=aD ((bW BK101 hg));have NB119_101:=aD ((bX BK101 hg));replace BK101:=aD (aU BK101 hb);have NB102_119:=aD ((bW BK102 hg));have NB119_102:=aD ((bX BK102 hg));replace BK102:=aD (aU BK102 hb);have NB103_119:=aD ((bW BK103 hg));have NB119_103:=aD ((bX BK103 hg));replace BK103:=aD (aU BK103 hb);have NB113_119:=aD ((bW BK113 hg));have NB119_113:=aD ((bX BK113 hg));replace BK113:=aD (aU BK113 hb);have NB107_119:=aD ((by rw [hg];exact Nat.ne_of_lt (bF (show aX w _ g107 t104 t117 t118 from aR HI107)):g107≠gb119));have NB119_107:=aD ((by rw [hg];exact Nat.ne_of_gt (bF (show aX w _ g107 t104 t117 t118 from aR HI107)):gb119≠g107));replace HI107:=aD (aX.below (aR HI107) hb);clear hb hbox hg;have hnb20:=NB119_101.out;have hnc20:=NB101_119.out;have hnb21:=NB119_102.out;have hnc21:=NB102_119.out;have hnb22:=NB119_103.out;have hnc22:=NB103_119.out;have hnb23:=NB119_113.out;have hnc23:=NB113_119.out;have hnb24:=NB119_107.out;have hnc24:=NB107_119.out;have hcz25_0:=aT BK119 0;have hcz25_1:=aT BK119 1;have hcz25_2:=aT BK119 2;have hfz25_0:=aC BK119.out 0;have hfz25_1:=aC BK119.out 1;have hfz25_2:=aC BK119.out 2)|((with_reducible refine aV (f:=107) rfl ?_);refine bK (some 15) Try.func107 #[.pointer (some ⟨g107,0,none⟩),.int .i64 2] ?_;(with_reducible refine (cI g107 t104 t117 t118 2 true t121 t122 w _ ?side1 ?side2 A5.out).mono ?_);(case side1=>exact aR HI107);(case side2=>exact cM HB (aJ HI107.out));rintro e w26 ⟨rfl,hi,hb,hk⟩;refine ⟨_,rfl,?_⟩;replace BK101:=aD (dO.blk hk (g':=gb101) (o:=.cells #[.int .i64 0,.int .i64 0,.int .i64 0] 72 (0,0)) (eW BK101) NB101_107.out (by simp));replace BK102:=aD (dO.blk hk (g':=gb102) (o:=.cells #[.int .i64 0,.int .i64 0,.int .i64 0] 72 (0,0)) (eW BK102) NB102_107.out (by simp));replace BK103:=aD (dO.blk hk (g':=gb103) (o:=.cells #[.int .i64 0,.int .i64 0,.int .i64 0] 72 (0,0)) (eW BK103) NB103_107.out (by simp));replace BK113:=aD (dO.blk hk (g':=gb113) (o:=.cells #[.int .i64 t108,.int .i64 t109,.int .i64 t110] 72 (0,0)) (eW BK113) NB113_107.out (by simp));replace BK119:=aD (dO.blk hk (g':=gb119) (o:=.cells #[.int .i64 t114,.int .i64 t115,.int .i64 t116] 72 (0,0)) (eW BK119) NB119_107.out (by simp));replace HB:=aD (hb);replace HI107:=aD (hi);(try clear hb);(try clear hb2);(try clear hk);(try clear hi)))
  replace BK101:=aD (aK BK101.out)
  replace BK102:=aD (aK BK102.out)
  replace BK103:=aD (aK BK103.out)
  replace BK113:=aD (aK BK113.out)
  replace BK119:=aD (aK BK119.out)
  replace HI107:=aD (aX.drew HI107.out)
  replace HB:=aD (lC HB.out)
  refine eE (n:=21) (S:=fun w'=>w'.cell? ⟨gb113,0,none⟩=some (.int .i64 t108)∧w'.cell? ⟨gb113,1,none⟩=some (.int .i64 t109)∧w'.cell? ⟨gb113,2,none⟩=some (.int .i64 t110)∧w'.cell? ⟨gb119,0,none⟩=some (.int .i64 t114)∧w'.cell? ⟨gb119,1,none⟩=some (.int .i64 t115)∧w'.cell? ⟨gb119,2,none⟩=some (.int .i64 t116)) (ds:=[]) (bm 21 0) (by kernel_rfl) rfl rfl ⟨aT BK113 0,aT BK113 1,aT BK113 2,aT BK119 0,aT BK119 1,aT BK119 2⟩ (fun hHeld=>?_);refine cX nO mL (fun HT_ HW_=>?_)
  generalize w26.drew=w27 at BK101 BK102 BK103 BK113 BK119 HI107 HB hHeld ⊢
  refine dG ((0,2,18,4)::(0,4,20,20)::(0,7,23,148)::(0,9,25,660)::(0,12,28,4756)::(0,14,30,21140)::(2,0,16,21141)::(2,1,17,21143)::(2,3,19,21151)::(2,5,21,21183)::(0,6,22,21247)::(2,8,24,21503)::(2,10,26,22527)::(0,11,27,24575)::(2,13,29,32767)::(2,15,31,65535)::(0,16,32,131071)::(0,17,33,262143)::[]) ?_
  iterate 18 (first|refine jT HT_ ?_|refine qB HT_ HW_ hHeld ?_)
  refine bL ?_
  refine cS (i:=18) (N:=none) (bm 21 524287) rfl rfl (bI HT_.out (by kernel_rfl)) (by decide) (fun K hK=>?_)
  have hs28:w27.cell? ⟨gb101,0,none⟩=some (.int .i64 0):=aT BK101 0
  have hfs28:=aC BK101.out 0
  have hns28_1:=NB102_101.out
  have hns28_2:=NB103_101.out
  have hns28_3:=NB113_101.out
  have hns28_4:=NB119_101.out
  have hms28_1:=NB101_102.out
  have hms28_2:=NB101_103.out
  have hms28_3:=NB101_113.out
  have hms28_4:=NB101_119.out
  have hs29:w27.cell? ⟨gb101,1,none⟩=some (.int .i64 0):=aT BK101 1
  have hfs29:=aC BK101.out 1
  have hns29_1:=NB102_101.out
  have hns29_2:=NB103_101.out
  have hns29_3:=NB113_101.out
  have hns29_4:=NB119_101.out
  have hms29_1:=NB101_102.out
  have hms29_2:=NB101_103.out
  have hms29_3:=NB101_113.out
  have hms29_4:=NB101_119.out
  have hs30:w27.cell? ⟨gb101,2,none⟩=some (.int .i64 0):=aT BK101 2
  have hfs30:=aC BK101.out 2
  have hns30_1:=NB102_101.out
  have hns30_2:=NB103_101.out
  have hns30_3:=NB113_101.out
  have hns30_4:=NB119_101.out
  have hms30_1:=NB101_102.out
  have hms30_2:=NB101_103.out
  have hms30_3:=NB101_113.out
  have hms30_4:=NB101_119.out
  refine fW (w1:=?_) (by rfl) rfl ?_ ?_
  rotate_left
  ·go_simp
   rfl
  refine hK.out _ _ ⟨(cU NB113_101 ((cU NB113_101 ((cU NB113_101 hHeld.1))))),(cU NB113_101 ((cU NB113_101 ((cU NB113_101 hHeld.2.1))))),(cU NB113_101 ((cU NB113_101 ((cU NB113_101 hHeld.2.2.1))))),(cU NB119_101 ((cU NB119_101 ((cU NB119_101 hHeld.2.2.2.1))))),(cU NB119_101 ((cU NB119_101 ((cU NB119_101 hHeld.2.2.2.2.1))))),(cU NB119_101 ((cU NB119_101 ((cU NB119_101 hHeld.2.2.2.2.2)))))⟩ (fun hHeld=>?_)
  clear hK K
  refine cS (i:=19) (N:=none) (bm 21 1048575) rfl rfl (bI HT_.out (by kernel_rfl)) (by decide) (fun K hK=>?_)
  have hs31:w27.cell? ⟨gb102,0,none⟩=some (.int .i64 0):=aT BK102 0
  have hfs31:=aC BK102.out 0
  have hns31_0:=NB101_102.out
  have hns31_2:=NB103_102.out
  have hns31_3:=NB113_102.out
  have hns31_4:=NB119_102.out
  have hms31_0:=NB102_101.out
  have hms31_2:=NB102_103.out
  have hms31_3:=NB102_113.out
  have hms31_4:=NB102_119.out
  have hs32:w27.cell? ⟨gb102,1,none⟩=some (.int .i64 0):=aT BK102 1
  have hfs32:=aC BK102.out 1
  have hns32_0:=NB101_102.out
  have hns32_2:=NB103_102.out
  have hns32_3:=NB113_102.out
  have hns32_4:=NB119_102.out
  have hms32_0:=NB102_101.out
  have hms32_2:=NB102_103.out
  have hms32_3:=NB102_113.out
  have hms32_4:=NB102_119.out
  have hs33:w27.cell? ⟨gb102,2,none⟩=some (.int .i64 0):=aT BK102 2
  have hfs33:=aC BK102.out 2
  have hns33_0:=NB101_102.out
  have hns33_2:=NB103_102.out
  have hns33_3:=NB113_102.out
  have hns33_4:=NB119_102.out
  have hms33_0:=NB102_101.out
  have hms33_2:=NB102_103.out
  have hms33_3:=NB102_113.out
  have hms33_4:=NB102_119.out
  refine fW (w1:=?_) (by rfl) rfl ?_ ?_
  rotate_left
  ·go_simp
   rfl
  refine hK.out _ _ ⟨(cU NB113_102 ((cU NB113_102 ((cU NB113_102 hHeld.1))))),(cU NB113_102 ((cU NB113_102 ((cU NB113_102 hHeld.2.1))))),(cU NB113_102 ((cU NB113_102 ((cU NB113_102 hHeld.2.2.1))))),(cU NB119_102 ((cU NB119_102 ((cU NB119_102 hHeld.2.2.2.1))))),(cU NB119_102 ((cU NB119_102 ((cU NB119_102 hHeld.2.2.2.2.1))))),(cU NB119_102 ((cU NB119_102 ((cU NB119_102 hHeld.2.2.2.2.2)))))⟩ (fun hHeld=>?_)
  clear hK K
  refine cS (i:=20) (N:=none) (bm 21 2097151) rfl rfl (bI HT_.out (by kernel_rfl)) (by decide) (fun K hK=>?_)
  have hs34:w27.cell? ⟨gb103,0,none⟩=some (.int .i64 0):=aT BK103 0
  have hfs34:=aC BK103.out 0
  have hns34_0:=NB101_103.out
  have hns34_1:=NB102_103.out
  have hns34_3:=NB113_103.out
  have hns34_4:=NB119_103.out
  have hms34_0:=NB103_101.out
  have hms34_1:=NB103_102.out
  have hms34_3:=NB103_113.out
  have hms34_4:=NB103_119.out
  have hs35:w27.cell? ⟨gb103,1,none⟩=some (.int .i64 0):=aT BK103 1
  have hfs35:=aC BK103.out 1
  have hns35_0:=NB101_103.out
  have hns35_1:=NB102_103.out
  have hns35_3:=NB113_103.out
  have hns35_4:=NB119_103.out
  have hms35_0:=NB103_101.out
  have hms35_1:=NB103_102.out
  have hms35_3:=NB103_113.out
  have hms35_4:=NB103_119.out
  have hs36:w27.cell? ⟨gb103,2,none⟩=some (.int .i64 0):=aT BK103 2
  have hfs36:=aC BK103.out 2
  have hns36_0:=NB101_103.out
  have hns36_1:=NB102_103.out
  have hns36_3:=NB113_103.out
  have hns36_4:=NB119_103.out
  have hms36_0:=NB103_101.out
  have hms36_1:=NB103_102.out
  have hms36_3:=NB103_113.out
  have hms36_4:=NB103_119.out
  refine fW (w1:=?_) (by rfl) rfl ?_ ?_
  rotate_left
  ·go_simp
   rfl
  refine hK.out _ _ ⟨(cU NB113_103 ((cU NB113_103 ((cU NB113_103 hHeld.1))))),(cU NB113_103 ((cU NB113_103 ((cU NB113_103 hHeld.2.1))))),(cU NB113_103 ((cU NB113_103 ((cU NB113_103 hHeld.2.2.1))))),(cU NB119_103 ((cU NB119_103 ((cU NB119_103 hHeld.2.2.2.1))))),(cU NB119_103 ((cU NB119_103 ((cU NB119_103 hHeld.2.2.2.2.1))))),(cU NB119_103 ((cU NB119_103 ((cU NB119_103 hHeld.2.2.2.2.2)))))⟩ (fun hHeld=>?_)
  clear hK K
  refine dD (dZ HT_.out (by kernel_rfl)) ?_
  try go_wp2
  refine bodyPost_ret (iI (rs:=[.cell 2 72,.cell 3 72,.cell 4 72]) rfl (by simp) (.cell gb101 72 #[.int .i64 t108,.int .i64 t109,.int .i64 t110] (0,0) _ rfl (eW BK101) Try.underlying72 rfl (by kernel_rfl) (.cell gb102 72 #[.int .i64 t114,.int .i64 t115,.int .i64 t116] (0,0) _ rfl (by (with_reducible repeat (first|refine aQ ?_ _|refine aK ?_|refine aN ?_ _));refine bD ?_ NB102_103.out _;(with_reducible repeat (first|refine aQ ?_ _|refine aK ?_|refine aN ?_ _));refine bD ?_ NB102_103.out _;(with_reducible repeat (first|refine aQ ?_ _|refine aK ?_|refine aN ?_ _));refine bD ?_ NB102_103.out _;(with_reducible repeat (first|refine aQ ?_ _|refine aK ?_|refine aN ?_ _));refine cJ (cs:=#[.int .i64 t114,.int .i64 t115,.int .i64 0]) ?_ 2 _ rfl;(with_reducible repeat (first|refine aQ ?_ _|refine aK ?_|refine aN ?_ _));refine cJ (cs:=#[.int .i64 t114,.int .i64 0,.int .i64 0]) ?_ 1 _ rfl;(with_reducible repeat (first|refine aQ ?_ _|refine aK ?_|refine aN ?_ _));refine cJ (cs:=#[.int .i64 0,.int .i64 0,.int .i64 0]) ?_ 0 _ rfl;(with_reducible repeat (first|refine aQ ?_ _|refine aK ?_|refine aN ?_ _));refine bD ?_ NB102_101.out _;(with_reducible repeat (first|refine aQ ?_ _|refine aK ?_|refine aN ?_ _));refine bD ?_ NB102_101.out _;(with_reducible repeat (first|refine aQ ?_ _|refine aK ?_|refine aN ?_ _));refine bD ?_ NB102_101.out _;(with_reducible repeat (first|refine aQ ?_ _|refine aK ?_|refine aN ?_ _));exact BK102.out) Try.underlying72 rfl (by kernel_rfl) (.cell gb103 72 #[.int .i64 (wrap64 (t108+t114)),.int .i64 (wrap64 (t109+t115)),.int .i64 (wrap64 (t110+t116))] (0,0) _ rfl (by (with_reducible repeat (first|refine aQ ?_ _|refine aK ?_|refine aN ?_ _));refine cJ (cs:=#[.int .i64 (wrap64 (t108+t114)),.int .i64 (wrap64 (t109+t115)),.int .i64 0]) ?_ 2 _ rfl;(with_reducible repeat (first|refine aQ ?_ _|refine aK ?_|refine aN ?_ _));refine cJ (cs:=#[.int .i64 (wrap64 (t108+t114)),.int .i64 0,.int .i64 0]) ?_ 1 _ rfl;(with_reducible repeat (first|refine aQ ?_ _|refine aK ?_|refine aN ?_ _));refine cJ (cs:=#[.int .i64 0,.int .i64 0,.int .i64 0]) ?_ 0 _ rfl;(with_reducible repeat (first|refine aQ ?_ _|refine aK ?_|refine aN ?_ _));refine bD ?_ NB103_102.out _;(with_reducible repeat (first|refine aQ ?_ _|refine aK ?_|refine aN ?_ _));refine bD ?_ NB103_102.out _;(with_reducible repeat (first|refine aQ ?_ _|refine aK ?_|refine aN ?_ _));refine bD ?_ NB103_102.out _;(with_reducible repeat (first|refine aQ ?_ _|refine aK ?_|refine aN ?_ _));refine bD ?_ NB103_101.out _;(with_reducible repeat (first|refine aQ ?_ _|refine aK ?_|refine aN ?_ _));refine bD ?_ NB103_101.out _;(with_reducible repeat (first|refine aQ ?_ _|refine aK ?_|refine aN ?_ _));refine bD ?_ NB103_101.out _;(with_reducible repeat (first|refine aQ ?_ _|refine aK ?_|refine aN ?_ _));exact BK103.out) Try.underlying72 rfl (by kernel_rfl) .nil)))) rfl ?_
  exact ⟨dA,cM HB (aJ HI107.out)⟩
 ·replace c6:=Bool.eq_false_iff.mpr c6
  subst c6
  rw [if_neg (show ¬ (false=true) by decide)] at H
  replace H:=fQ H
  obtain ⟨⟨t123,t124,t125,t126,t127⟩,A37,H⟩:=H
  try dsimp only at H
  simp only [Option.some.injEq,Prod.mk.injEq] at H
  obtain ⟨rfl,rfl,rfl,rfl,rfl,rfl,rfl,rfl,rfl⟩:=H
  go_enter Try.func78,Try.ntmps78
  try go_wp2_with (first|((with_reducible refine aW (N:=2) rfl ?_);refine bS (N:=2) #[.int .i64 0,.int .i64 0,.int .i64 0] 72 ?_;intro gb101 hg w38 hbox hb;have BK101:=aD (hbox);have GW101:=aD ((cZ HB hg));have GE101:=aD ((cZ HB hg));replace HB:=aD (aE (bM HB) hb);clear hb hbox hg)|((with_reducible refine aW (N:=3) rfl ?_);refine bS (N:=3) #[.int .i64 0,.int .i64 0,.int .i64 0] 72 ?_;intro gb102 hg w39 hbox hb;have BK102:=aD (hbox);have GW102:=aD ((cZ HB hg));have GE102:=aD ((cZ HB hg));replace HB:=aD (aE (bM HB) hb);have NB101_102:=aD ((bW BK101 hg));have NB102_101:=aD ((bX BK101 hg));replace BK101:=aD (aU BK101 hb);clear hb hbox hg)|((with_reducible refine aW (N:=4) rfl ?_);refine bS (N:=4) #[.int .i64 0,.int .i64 0,.int .i64 0] 72 ?_;intro gb103 hg w40 hbox hb;have BK103:=aD (hbox);have GW103:=aD ((cZ HB hg));have GE103:=aD ((cZ HB hg));replace HB:=aD (aE (bM HB) hb);have NB101_103:=aD ((bW BK101 hg));have NB103_101:=aD ((bX BK101 hg));replace BK101:=aD (aU BK101 hb);have NB102_103:=aD ((bW BK102 hg));have NB103_102:=aD ((bX BK102 hg));replace BK102:=aD (aU BK102 hb);clear hb hbox hg)|((with_reducible refine aV (f:=99) rfl ?_);refine bK (some 9) Try.func99 #[.slice A0 l0.length c0] ?_;(with_reducible refine (fI k _ _ l0 t104 t105 t106 w _ ?side1 ?side2 ?side3 A2.out).mono ?_);(case side1=>exact bM HB);(case side2=>exact HR0.out);(case side3=>exact HC0.out);rintro e w41 ⟨g107,rfl,hi,hb,hb2⟩;refine ⟨_,rfl,?_⟩;replace HB:=aD (hb);have HI107:=aD (hi);have NB107_101:=aD (bV hi (bG (g:=gb101) (o:=.cells #[.int .i64 0,.int .i64 0,.int .i64 0] 72 (0,0)) (cF BK101) hb2) (by decide));have NB101_107:=aD (Ne.symm (bV hi (bG (g:=gb101) (o:=.cells #[.int .i64 0,.int .i64 0,.int .i64 0] 72 (0,0)) (cF BK101) hb2) (by decide)));replace BK101:=aD (bG (g:=gb101) (o:=.cells #[.int .i64 0,.int .i64 0,.int .i64 0] 72 (0,0)) (cF BK101) hb2);have NB107_102:=aD (bV hi (bG (g:=gb102) (o:=.cells #[.int .i64 0,.int .i64 0,.int .i64 0] 72 (0,0)) (cF BK102) hb2) (by decide));have NB102_107:=aD (Ne.symm (bV hi (bG (g:=gb102) (o:=.cells #[.int .i64 0,.int .i64 0,.int .i64 0] 72 (0,0)) (cF BK102) hb2) (by decide)));replace BK102:=aD (bG (g:=gb102) (o:=.cells #[.int .i64 0,.int .i64 0,.int .i64 0] 72 (0,0)) (cF BK102) hb2);have NB107_103:=aD (bV hi (bG (g:=gb103) (o:=.cells #[.int .i64 0,.int .i64 0,.int .i64 0] 72 (0,0)) (cF BK103) hb2) (by decide));have NB103_107:=aD (Ne.symm (bV hi (bG (g:=gb103) (o:=.cells #[.int .i64 0,.int .i64 0,.int .i64 0] 72 (0,0)) (cF BK103) hb2) (by decide)));replace BK103:=aD (bG (g:=gb103) (o:=.cells #[.int .i64 0,.int .i64 0,.int .i64 0] 72 (0,0)) (cF BK103) hb2);(try clear hb);(try clear hb2);(try clear hk);(try clear hi))|((with_reducible refine aV (f:=135) rfl ?_);refine bK (some 11) Try.func135 #[.pointer (some ⟨g107,0,none⟩)] ?_;(with_reducible refine (eI g107 t104 t105 t106 t108 t109 t110 t111 t112 w _ ?side1 ?side2 A3.out).mono ?_);(case side1=>exact aR HI107);(case side2=>exact cM HB (aJ HI107.out));rintro e w42 ⟨rfl,hi,hb,hk⟩;refine ⟨_,rfl,?_⟩;replace BK101:=aD (dO.blk hk (g':=gb101) (o:=.cells #[.int .i64 0,.int .i64 0,.int .i64 0] 72 (0,0)) (cF BK101) NB101_107.out (by simp));replace BK102:=aD (dO.blk hk (g':=gb102) (o:=.cells #[.int .i64 0,.int .i64 0,.int .i64 0] 72 (0,0)) (cF BK102) NB102_107.out (by simp));replace BK103:=aD (dO.blk hk (g':=gb103) (o:=.cells #[.int .i64 0,.int .i64 0,.int .i64 0] 72 (0,0)) (cF BK103) NB103_107.out (by simp));replace HB:=aD (hb);replace HI107:=aD (hi);(try clear hb);(try clear hb2);(try clear hk);(try clear hi))|((with_reducible refine aW (N:=6) rfl ?_);refine bS (N:=6) #[.int .i64 0,.int .i64 0,.int .i64 0] 72 ?_;intro gb113 hg w43 hbox hb;have BK113:=aD (hbox);have GW113:=aD ((by rw [hg];exact (aM (cM HB (aJ HI107.out))):w.heap.size≤gb113));have GE113:=aD ((by rw [hg];exact (aM (cM HB (aJ HI107.out))):w.heap.size≤gb113));replace HB:=aD (aE (cM HB (aJ HI107.out)) hb);have NB101_113:=aD ((bW BK101 hg));have NB113_101:=aD ((bX BK101 hg));replace BK101:=aD (aU BK101 hb);have NB102_113:=aD ((bW BK102 hg));have NB113_102:=aD ((bX BK102 hg));replace BK102:=aD (aU BK102 hb);have NB103_113:=aD ((bW BK103 hg));have NB113_103:=aD ((bX BK103 hg));replace BK103:=aD (aU BK103 hb);have NB107_113:=aD ((by rw [hg];exact Nat.ne_of_lt (bF (show aX w _ g107 t104 t111 t112 from aR HI107)):g107≠gb113));have NB113_107:=aD ((by rw [hg];exact Nat.ne_of_gt (bF (show aX w _ g107 t104 t111 t112 from aR HI107)):gb113≠g107));replace HI107:=aD (aX.below (aR HI107) hb);clear hb hbox hg;have hnb44:=NB113_101.out;have hnc44:=NB101_113.out;have hnb45:=NB113_102.out;have hnc45:=NB102_113.out;have hnb46:=NB113_103.out;have hnc46:=NB103_113.out;have hnb47:=NB113_107.out;have hnc47:=NB107_113.out;have hcz48_0:=aT BK113 0;have hcz48_1:=aT BK113 1;have hcz48_2:=aT BK113 2;have hfz48_0:=aC BK113.out 0;have hfz48_1:=aC BK113.out 1;have hfz48_2:=aC BK113.out 2)|((with_reducible refine aV (f:=135) rfl ?_);refine bK (some 13) Try.func135 #[.pointer (some ⟨g107,0,none⟩)] ?_;(with_reducible refine (eI g107 t104 t111 t112 t114 t115 t116 t117 t118 w _ ?side1 ?side2 A4.out).mono ?_);(case side1=>exact aR HI107);(case side2=>exact cM HB (aJ HI107.out));rintro e w49 ⟨rfl,hi,hb,hk⟩;refine ⟨_,rfl,?_⟩;replace BK101:=aD (dO.blk hk (g':=gb101) (o:=.cells #[.int .i64 0,.int .i64 0,.int .i64 0] 72 (0,0)) (eW BK101) NB101_107.out (by simp));replace BK102:=aD (dO.blk hk (g':=gb102) (o:=.cells #[.int .i64 0,.int .i64 0,.int .i64 0] 72 (0,0)) (eW BK102) NB102_107.out (by simp));replace BK103:=aD (dO.blk hk (g':=gb103) (o:=.cells #[.int .i64 0,.int .i64 0,.int .i64 0] 72 (0,0)) (eW BK103) NB103_107.out (by simp));replace BK113:=aD (dO.blk hk (g':=gb113) (o:=.cells #[.int .i64 t108,.int .i64 t109,.int .i64 t110] 72 (0,0)) (eW BK113) NB113_107.out (by simp));replace HB:=aD (hb);replace HI107:=aD (hi);(try clear hb);(try clear hb2);(try clear hk);(try clear hi))|((with_reducible refine aW (N:=7) rfl ?_);refine bS (N:=7) #[.int .i64 0,.int .i64 0,.int .i64 0] 72 ?_;intro gb119 hg w50 hbox hb;have BK119:=aD (hbox);have GW119:=aD ((by rw [hg];exact (aM (cM HB (aJ HI107.out))):w.heap.size≤gb119));have GE119:=aD ((by rw [hg];exact (aM (cM HB (aJ HI107.out))):w.heap.size≤gb119));replace HB:=aD (aE (cM HB (aJ HI107.out)) hb);have NB101_119:=aD ((bW BK101 hg));have NB119_101:=aD ((bX BK101 hg));replace BK101:=aD (aU BK101 hb);have NB102_119:=aD ((bW BK102 hg));have NB119_102:=aD ((bX BK102 hg));replace BK102:=aD (aU BK102 hb);have NB103_119:=aD ((bW BK103 hg));have NB119_103:=aD ((bX BK103 hg));replace BK103:=aD (aU BK103 hb);have NB113_119:=aD ((bW BK113 hg));have NB119_113:=aD ((bX BK113 hg));replace BK113:=aD (aU BK113 hb);have NB107_119:=aD ((by rw [hg];exact Nat.ne_of_lt (bF (show aX w _ g107 t104 t117 t118 from aR HI107)):g107≠gb119));have NB119_107:=aD ((by rw [hg];exact Nat.ne_of_gt (bF (show aX w _ g107 t104 t117 t118 from aR HI107)):gb119≠g107));replace HI107:=aD (aX.below (aR HI107) hb);clear hb hbox hg;have hnb51:=NB119_101.out;have hnc51:=NB101_119.out;have hnb52:=NB119_102.out;have hnc52:=NB102_119.out;have hnb53:=NB119_103.out;have hnc53:=NB103_119.out;have hnb54:=NB119_113.out;have hnc54:=NB113_119.out;have hnb55:=NB119_107.out;have hnc55:=NB107_119.out;have hcz56_0:=aT BK119 0;have hcz56_1:=aT BK119 1;have hcz56_2:=aT BK119 2;have hfz56_0:=aC BK119.out 0;have hfz56_1:=aC BK119.out 1;have hfz56_2:=aC BK119.out 2)|((with_reducible refine aV (f:=107) rfl ?_);refine bK (some 15) Try.func107 #[.pointer (some ⟨g107,0,none⟩),.int .i64 2] ?_;(with_reducible refine (cI g107 t104 t117 t118 2 false t121 t122 w _ ?side1 ?side2 A5.out).mono ?_);(case side1=>exact aR HI107);(case side2=>exact cM HB (aJ HI107.out));rintro e w57 ⟨rfl,hi,hb,hk⟩;refine ⟨_,rfl,?_⟩;replace BK101:=aD (dO.blk hk (g':=gb101) (o:=.cells #[.int .i64 0,.int .i64 0,.int .i64 0] 72 (0,0)) (eW BK101) NB101_107.out (by simp));replace BK102:=aD (dO.blk hk (g':=gb102) (o:=.cells #[.int .i64 0,.int .i64 0,.int .i64 0] 72 (0,0)) (eW BK102) NB102_107.out (by simp));replace BK103:=aD (dO.blk hk (g':=gb103) (o:=.cells #[.int .i64 0,.int .i64 0,.int .i64 0] 72 (0,0)) (eW BK103) NB103_107.out (by simp));replace BK113:=aD (dO.blk hk (g':=gb113) (o:=.cells #[.int .i64 t108,.int .i64 t109,.int .i64 t110] 72 (0,0)) (eW BK113) NB113_107.out (by simp));replace BK119:=aD (dO.blk hk (g':=gb119) (o:=.cells #[.int .i64 t114,.int .i64 t115,.int .i64 t116] 72 (0,0)) (eW BK119) NB119_107.out (by simp));replace HB:=aD (hb);replace HI107:=aD (hi);(try clear hb);(try clear hb2);(try clear hk);(try clear hi)))
  replace BK101:=aD (aK BK101.out)
  replace BK102:=aD (aK BK102.out)
  replace BK103:=aD (aK BK103.out)
  replace BK113:=aD (aK BK113.out)
  replace BK119:=aD (aK BK119.out)
  replace HI107:=aD (aX.drew HI107.out)
  replace HB:=aD (lC HB.out)
  refine eE (n:=7) (S:=fun w'=>w'.cell? ⟨gb113,0,none⟩=some (.int .i64 t108)∧w'.cell? ⟨gb113,1,none⟩=some (.int .i64 t109)∧w'.cell? ⟨gb113,2,none⟩=some (.int .i64 t110)∧w'.cell? ⟨gb119,0,none⟩=some (.int .i64 t114)∧w'.cell? ⟨gb119,1,none⟩=some (.int .i64 t115)∧w'.cell? ⟨gb119,2,none⟩=some (.int .i64 t116)) (ds:=[]) (bm 7 0) (by kernel_rfl) rfl rfl ⟨aT BK113 0,aT BK113 1,aT BK113 2,aT BK119 0,aT BK119 1,aT BK119 2⟩ (fun hHeld=>?_)
  generalize w57.drew=w58 at BK101 BK102 BK103 BK113 BK119 HI107 HB hHeld ⊢
  refine jY (i:=2) (N:=some 36) (v:=?_) (a':=?_) (bm 7 4) rfl rfl (by kernel_rfl) (fun _ _ _ h=>h) (Or.inl ⟨by rfl,?_⟩) ?_ ?_
  rotate_left
  ·intro w'
   go_simp
   with_reducible rfl
  rotate_left
  ·simp only [Act.put,List.setIfInBounds_toArray,List.set_cons_zero,List.set_cons_succ,aZ,bB]
   rfl
  refine pW (i:=0) (N:=some 34) (v:=?_) (a':=?_) (bm 7 5) rfl rfl (by kernel_rfl) (fun _ _ _ h=>h) (Or.inl ⟨by rfl,?_⟩) hHeld ?_ ?_
  rotate_left
  ·rintro w' ⟨s0,s1,s2,s3,s4,s5⟩
   go_simp
   with_reducible rfl
  rotate_left
  ·simp only [Act.put,List.setIfInBounds_toArray,List.set_cons_zero,List.set_cons_succ,aZ,bB]
   rfl
  refine pW (i:=1) (N:=some 35) (v:=?_) (a':=?_) (bm 7 7) rfl rfl (by kernel_rfl) (fun _ _ _ h=>h) (Or.inl ⟨by rfl,?_⟩) hHeld ?_ ?_
  rotate_left
  ·rintro w' ⟨s0,s1,s2,s3,s4,s5⟩
   go_simp
   with_reducible rfl
  rotate_left
  ·simp only [Act.put,List.setIfInBounds_toArray,List.set_cons_zero,List.set_cons_succ,aZ,bB]
   rfl
  refine cS (i:=3) (N:=some 37) (bm 7 15) rfl rfl (by kernel_rfl) (by decide) (fun K hK=>?_)
  refine bP Try.func135 #[.pointer (some ⟨g107,0,none⟩)] ?_
  with_reducible refine (eI g107 t104 t121 t122 t123 t124 t125 t126 t127 w _ ?side1 ?side2 A37.out).mono ?_
  (case side1=>exact aR HI107)
  (case side2=>exact cM HB (aJ HI107.out))
  rintro e w59 ⟨rfl,hi,hb,hk⟩
  refine ⟨_,rfl,?_⟩
  replace BK101:=aD (dO.blk hk (g':=gb101) (o:=.cells #[.int .i64 0,.int .i64 0,.int .i64 0] 72 (0,0)) (cF BK101) NB101_107.out (by simp))
  replace BK102:=aD (dO.blk hk (g':=gb102) (o:=.cells #[.int .i64 0,.int .i64 0,.int .i64 0] 72 (0,0)) (cF BK102) NB102_107.out (by simp))
  replace BK103:=aD (dO.blk hk (g':=gb103) (o:=.cells #[.int .i64 0,.int .i64 0,.int .i64 0] 72 (0,0)) (cF BK103) NB103_107.out (by simp))
  replace BK113:=aD (dO.blk hk (g':=gb113) (o:=.cells #[.int .i64 t108,.int .i64 t109,.int .i64 t110] 72 (0,0)) (cF BK113) NB113_107.out (by simp))
  replace BK119:=aD (dO.blk hk (g':=gb119) (o:=.cells #[.int .i64 t114,.int .i64 t115,.int .i64 t116] 72 (0,0)) (cF BK119) NB119_107.out (by simp))
  replace HB:=aD (hb)
  replace HI107:=aD (hi)
  (try clear hb)
  (try clear hb2)
  (try clear hk)
  (try clear hi)
  refine hK.out _ _ ⟨aT BK113 0,aT BK113 1,aT BK113 2,aT BK119 0,aT BK119 1,aT BK119 2⟩ (fun hHeld=>?_)
  clear hK K
  refine wH ?_
  refine cS (i:=4) (N:=none) (bm 7 31) rfl rfl (by kernel_rfl) (by decide) (fun K hK=>?_)
  have hs60:w59.cell? ⟨gb101,0,none⟩=some (.int .i64 0):=aT BK101 0
  have hfs60:=aC BK101.out 0
  have hns60_1:=NB102_101.out
  have hns60_2:=NB103_101.out
  have hns60_3:=NB113_101.out
  have hns60_4:=NB119_101.out
  have hms60_1:=NB101_102.out
  have hms60_2:=NB101_103.out
  have hms60_3:=NB101_113.out
  have hms60_4:=NB101_119.out
  have hs61:w59.cell? ⟨gb101,1,none⟩=some (.int .i64 0):=aT BK101 1
  have hfs61:=aC BK101.out 1
  have hns61_1:=NB102_101.out
  have hns61_2:=NB103_101.out
  have hns61_3:=NB113_101.out
  have hns61_4:=NB119_101.out
  have hms61_1:=NB101_102.out
  have hms61_2:=NB101_103.out
  have hms61_3:=NB101_113.out
  have hms61_4:=NB101_119.out
  have hs62:w59.cell? ⟨gb101,2,none⟩=some (.int .i64 0):=aT BK101 2
  have hfs62:=aC BK101.out 2
  have hns62_1:=NB102_101.out
  have hns62_2:=NB103_101.out
  have hns62_3:=NB113_101.out
  have hns62_4:=NB119_101.out
  have hms62_1:=NB101_102.out
  have hms62_2:=NB101_103.out
  have hms62_3:=NB101_113.out
  have hms62_4:=NB101_119.out
  refine fW (w1:=?_) (by rfl) rfl ?_ ?_
  rotate_left
  ·go_simp
   rfl
  refine hK.out _ _ ⟨(cU NB113_101 ((cU NB113_101 ((cU NB113_101 hHeld.1))))),(cU NB113_101 ((cU NB113_101 ((cU NB113_101 hHeld.2.1))))),(cU NB113_101 ((cU NB113_101 ((cU NB113_101 hHeld.2.2.1))))),(cU NB119_101 ((cU NB119_101 ((cU NB119_101 hHeld.2.2.2.1))))),(cU NB119_101 ((cU NB119_101 ((cU NB119_101 hHeld.2.2.2.2.1))))),(cU NB119_101 ((cU NB119_101 ((cU NB119_101 hHeld.2.2.2.2.2)))))⟩ (fun hHeld=>?_)
  clear hK K
  refine cS (i:=5) (N:=none) (bm 7 63) rfl rfl (by kernel_rfl) (by decide) (fun K hK=>?_)
  have hs63:w59.cell? ⟨gb102,0,none⟩=some (.int .i64 0):=aT BK102 0
  have hfs63:=aC BK102.out 0
  have hns63_0:=NB101_102.out
  have hns63_2:=NB103_102.out
  have hns63_3:=NB113_102.out
  have hns63_4:=NB119_102.out
  have hms63_0:=NB102_101.out
  have hms63_2:=NB102_103.out
  have hms63_3:=NB102_113.out
  have hms63_4:=NB102_119.out
  have hs64:w59.cell? ⟨gb102,1,none⟩=some (.int .i64 0):=aT BK102 1
  have hfs64:=aC BK102.out 1
  have hns64_0:=NB101_102.out
  have hns64_2:=NB103_102.out
  have hns64_3:=NB113_102.out
  have hns64_4:=NB119_102.out
  have hms64_0:=NB102_101.out
  have hms64_2:=NB102_103.out
  have hms64_3:=NB102_113.out
  have hms64_4:=NB102_119.out
  have hs65:w59.cell? ⟨gb102,2,none⟩=some (.int .i64 0):=aT BK102 2
  have hfs65:=aC BK102.out 2
  have hns65_0:=NB101_102.out
  have hns65_2:=NB103_102.out
  have hns65_3:=NB113_102.out
  have hns65_4:=NB119_102.out
  have hms65_0:=NB102_101.out
  have hms65_2:=NB102_103.out
  have hms65_3:=NB102_113.out
  have hms65_4:=NB102_119.out
  refine fW (w1:=?_) (by rfl) rfl ?_ ?_
  rotate_left
  ·go_simp
   rfl
  refine hK.out _ _ ⟨(cU NB113_102 ((cU NB113_102 ((cU NB113_102 hHeld.1))))),(cU NB113_102 ((cU NB113_102 ((cU NB113_102 hHeld.2.1))))),(cU NB113_102 ((cU NB113_102 ((cU NB113_102 hHeld.2.2.1))))),(cU NB119_102 ((cU NB119_102 ((cU NB119_102 hHeld.2.2.2.1))))),(cU NB119_102 ((cU NB119_102 ((cU NB119_102 hHeld.2.2.2.2.1))))),(cU NB119_102 ((cU NB119_102 ((cU NB119_102 hHeld.2.2.2.2.2)))))⟩ (fun hHeld=>?_)
  clear hK K
  refine cS (i:=6) (N:=none) (bm 7 127) rfl rfl (by kernel_rfl) (by decide) (fun K hK=>?_)
  have hs66:w59.cell? ⟨gb103,0,none⟩=some (.int .i64 0):=aT BK103 0
  have hfs66:=aC BK103.out 0
  have hns66_0:=NB101_103.out
  have hns66_1:=NB102_103.out
  have hns66_3:=NB113_103.out
  have hns66_4:=NB119_103.out
  have hms66_0:=NB103_101.out
  have hms66_1:=NB103_102.out
  have hms66_3:=NB103_113.out
  have hms66_4:=NB103_119.out
  have hs67:w59.cell? ⟨gb103,1,none⟩=some (.int .i64 0):=aT BK103 1
  have hfs67:=aC BK103.out 1
  have hns67_0:=NB101_103.out
  have hns67_1:=NB102_103.out
  have hns67_3:=NB113_103.out
  have hns67_4:=NB119_103.out
  have hms67_0:=NB103_101.out
  have hms67_1:=NB103_102.out
  have hms67_3:=NB103_113.out
  have hms67_4:=NB103_119.out
  have hs68:w59.cell? ⟨gb103,2,none⟩=some (.int .i64 0):=aT BK103 2
  have hfs68:=aC BK103.out 2
  have hns68_0:=NB101_103.out
  have hns68_1:=NB102_103.out
  have hns68_3:=NB113_103.out
  have hns68_4:=NB119_103.out
  have hms68_0:=NB103_101.out
  have hms68_1:=NB103_102.out
  have hms68_3:=NB103_113.out
  have hms68_4:=NB103_119.out
  refine fW (w1:=?_) (by rfl) rfl ?_ ?_
  rotate_left
  ·go_simp
   rfl
  refine hK.out _ _ ⟨(cU NB113_103 ((cU NB113_103 ((cU NB113_103 hHeld.1))))),(cU NB113_103 ((cU NB113_103 ((cU NB113_103 hHeld.2.1))))),(cU NB113_103 ((cU NB113_103 ((cU NB113_103 hHeld.2.2.1))))),(cU NB119_103 ((cU NB119_103 ((cU NB119_103 hHeld.2.2.2.1))))),(cU NB119_103 ((cU NB119_103 ((cU NB119_103 hHeld.2.2.2.2.1))))),(cU NB119_103 ((cU NB119_103 ((cU NB119_103 hHeld.2.2.2.2.2)))))⟩ (fun hHeld=>?_)
  clear hK K
  refine dD (by kernel_rfl) ?_
  try go_wp2
  refine bodyPost_ret (iI (rs:=[.cell 2 72,.cell 3 72,.cell 4 72]) rfl (by simp) (.cell gb101 72 #[.int .i64 t108,.int .i64 t109,.int .i64 t110] (0,0) _ rfl (eW BK101) Try.underlying72 rfl (by kernel_rfl) (.cell gb102 72 #[.int .i64 t114,.int .i64 t115,.int .i64 t116] (0,0) _ rfl (by (with_reducible repeat (first|refine aQ ?_ _|refine aK ?_|refine aN ?_ _));refine bD ?_ NB102_103.out _;(with_reducible repeat (first|refine aQ ?_ _|refine aK ?_|refine aN ?_ _));refine bD ?_ NB102_103.out _;(with_reducible repeat (first|refine aQ ?_ _|refine aK ?_|refine aN ?_ _));refine bD ?_ NB102_103.out _;(with_reducible repeat (first|refine aQ ?_ _|refine aK ?_|refine aN ?_ _));refine cJ (cs:=#[.int .i64 t114,.int .i64 t115,.int .i64 0]) ?_ 2 _ rfl;(with_reducible repeat (first|refine aQ ?_ _|refine aK ?_|refine aN ?_ _));refine cJ (cs:=#[.int .i64 t114,.int .i64 0,.int .i64 0]) ?_ 1 _ rfl;(with_reducible repeat (first|refine aQ ?_ _|refine aK ?_|refine aN ?_ _));refine cJ (cs:=#[.int .i64 0,.int .i64 0,.int .i64 0]) ?_ 0 _ rfl;(with_reducible repeat (first|refine aQ ?_ _|refine aK ?_|refine aN ?_ _));refine bD ?_ NB102_101.out _;(with_reducible repeat (first|refine aQ ?_ _|refine aK ?_|refine aN ?_ _));refine bD ?_ NB102_101.out _;(with_reducible repeat (first|refine aQ ?_ _|refine aK ?_|refine aN ?_ _));refine bD ?_ NB102_101.out _;(with_reducible repeat (first|refine aQ ?_ _|refine aK ?_|refine aN ?_ _));exact BK102.out) Try.underlying72 rfl (by kernel_rfl) (.cell gb103 72 #[.int .i64 t123,.int .i64 t124,.int .i64 t125] (0,0) _ rfl (by (with_reducible repeat (first|refine aQ ?_ _|refine aK ?_|refine aN ?_ _));refine cJ (cs:=#[.int .i64 t123,.int .i64 t124,.int .i64 0]) ?_ 2 _ rfl;(with_reducible repeat (first|refine aQ ?_ _|refine aK ?_|refine aN ?_ _));refine cJ (cs:=#[.int .i64 t123,.int .i64 0,.int .i64 0]) ?_ 1 _ rfl;(with_reducible repeat (first|refine aQ ?_ _|refine aK ?_|refine aN ?_ _));refine cJ (cs:=#[.int .i64 0,.int .i64 0,.int .i64 0]) ?_ 0 _ rfl;(with_reducible repeat (first|refine aQ ?_ _|refine aK ?_|refine aN ?_ _));refine bD ?_ NB103_102.out _;(with_reducible repeat (first|refine aQ ?_ _|refine aK ?_|refine aN ?_ _));refine bD ?_ NB103_102.out _;(with_reducible repeat (first|refine aQ ?_ _|refine aK ?_|refine aN ?_ _));refine bD ?_ NB103_102.out _;(with_reducible repeat (first|refine aQ ?_ _|refine aK ?_|refine aN ?_ _));refine bD ?_ NB103_101.out _;(with_reducible repeat (first|refine aQ ?_ _|refine aK ?_|refine aN ?_ _));refine bD ?_ NB103_101.out _;(with_reducible repeat (first|refine aQ ?_ _|refine aK ?_|refine aN ?_ _));refine bD ?_ NB103_101.out _;(with_reducible repeat (first|refine aQ ?_ _|refine aK ?_|refine aN ?_ _));exact BK103.out) Try.underlying72 rfl (by kernel_rfl) .nil)))) rfl ?_
  exact ⟨dA,cM HB (aJ HI107.out)⟩
/-! ### spec_l2Area: function 154 -/
def spec_l2Area.f (a0_0:Int) (a0_1:Int) (a1_0:Int) (a1_1:Int) (a2_0:Int) (a2_1:Int):Option (Int):=some (wrap64 ((wrap64 ((wrap64 (a1_0-a0_0))*(wrap64 (a2_1-a0_1))))-(wrap64 ((wrap64 (a1_1-a0_1))*(wrap64 (a2_0-a0_0))))))
set_option maxHeartbeats 8000000 in
set_option maxRecDepth 100000 in
theorem rF (a0_0:Int) (a0_1:Int) (a1_0:Int) (a1_1:Int) (a2_0:Int) (a2_1:Int) (r:Int) (w:World) (h:spec_l2Area.f a0_0 a0_1 a1_0 a1_1 a2_0 a2_1=some r) :
  Calls Try.prog 154 #[.agg #[.int .i64 a0_0,.int .i64 a0_1],.agg #[.int .i64 a1_0,.int .i64 a1_1],.agg #[.int .i64 a2_0,.int .i64 a2_1]] w fun e w'=>e=.returned (.int .i64 r)∧Below w.heap.size w w':=by
 have hu80:=Try.underlying80
 have HB:=aD (Below.refl w.heap.size w)
 unfold spec_l2Area.f at h
 have H:=h
 clear h
 obtain rfl:=Option.some.inj H
 go_enter Try.func154,Try.ntmps154
 go_wp2_with (first|((with_reducible refine aW (N:=3) rfl ?_);refine bS (N:=3) #[.int .i64 a0_0,.int .i64 a0_1] 80 ?_;intro gb101 hg w4 hbox hb;have BK101:=aD (hbox);have GW101:=aD ((cZ HB hg));have GE101:=aD ((cZ HB hg));replace HB:=aD (aE (bM HB) hb);clear hb hbox hg)|((with_reducible refine aW (N:=4) rfl ?_);refine bS (N:=4) #[.int .i64 a1_0,.int .i64 a1_1] 80 ?_;intro gb102 hg w5 hbox hb;have BK102:=aD (hbox);have GW102:=aD ((cZ HB hg));have GE102:=aD ((cZ HB hg));replace HB:=aD (aE (bM HB) hb);have NB101_102:=aD ((bW BK101 hg));have NB102_101:=aD ((bX BK101 hg));replace BK101:=aD (aU BK101 hb);clear hb hbox hg)|((with_reducible refine aW (N:=5) rfl ?_);refine bS (N:=5) #[.int .i64 a2_0,.int .i64 a2_1] 80 ?_;intro gb103 hg w6 hbox hb;have BK103:=aD (hbox);have GW103:=aD ((cZ HB hg));have GE103:=aD ((cZ HB hg));replace HB:=aD (aE (bM HB) hb);have NB101_103:=aD ((bW BK101 hg));have NB103_101:=aD ((bX BK101 hg));replace BK101:=aD (aU BK101 hb);have NB102_103:=aD ((bW BK102 hg));have NB103_102:=aD ((bX BK102 hg));replace BK102:=aD (aU BK102 hb);clear hb hbox hg;have hnb7:=NB102_101.out;have hnc7:=NB101_102.out;have hnb8:=NB102_103.out;have hnc8:=NB103_102.out;have hcz9_0:=aT BK102 0;have hcz9_1:=aT BK102 1;have hfz9_0:=aC BK102.out 0;have hfz9_1:=aC BK102.out 1;have hnb10:=NB101_103.out;have hnc10:=NB103_101.out;have hcz11_0:=aT BK101 0;have hcz11_1:=aT BK101 1;have hfz11_0:=aC BK101.out 0;have hfz11_1:=aC BK101.out 1;have hcz12_0:=aT BK103 0;have hcz12_1:=aT BK103 1;have hfz12_0:=aC BK103.out 0;have hfz12_1:=aC BK103.out 1))
 go_ret
 exact ⟨dA,bM HB⟩
end Go.Proofs.Ytldcckcljjlglaa.P

namespace Go.Proofs.Ytldcckcljjlglaa.P
open Go.RowKit Go.Proofs.YtldcckcljjlglaaW.PrintWords Go.Proofs.YtldcckcljjlglaaW.PrintLast Go.Proofs.YtldcckcljjlglaaW.PrintMore
attribute [local go_sem] max2_int min2_int max_two min_two max_three min_three max_four min_four
set_option linter.unusedVariables false
set_option linter.unusedSimpArgs false
attribute [local go_sem high] eqA80
/-! ### spec_l2Draw: function 137 -/
mutual
def dV:Nat→Int→List (dB)→Int→List Int→Int→Int→Option ((List (dB))×Int×Int)
 | 0,_,_,_,_,_,_=>none
 | k+1,x3,x4,x5,x1000,x1001,x1002=>if x5<12 then (eX k x3 x4 x5 (decide ((x4.length:Int)<x3)) x1000 x1001 x1002) else (eX k x3 x4 x5 false x1000 x1001 x1002)
def eX:Nat→Int→List (dB)→Int→Bool→List Int→Int→Int→Option ((List (dB))×Int×Int)
 | 0,_,_,_,_,_,_,_=>none
 | k+1,x3,x4,x5,x21,x1000,x1001,x1002=>if x21=true then ((spec_l1Below.f x1000 x1001 x1002 13).bind fun bt110=>((spec_l1Below.f x1000 bt110.2.1 bt110.2.2 13).bind fun bt113=>(eJ k x3 x4 x5 true 0 x1000 bt113.2.1 bt113.2.2 (wrap64 (bt110.1-6)) (wrap64 (bt113.1-6))))) else (if (x4.length:Int)<3 then (some ((([(⟨0,0⟩:dB),(⟨4,1⟩:dB),(⟨1,3⟩:dB),(⟨2,2⟩:dB)]:List (dB))),x1001,x1002)) else (some (x4,x1001,x1002)))
def eJ:Nat→Int→List (dB)→Int→Bool→Int→List Int→Int→Int→Int→Int→Option ((List (dB))×Int×Int)
 | 0,_,_,_,_,_,_,_,_,_,_=>none
 | k+1,x3,x4,x5,x7,x8,x1000,x1001,x1002,x117000,x117001=>if x8<(x4.length:Int) then (eK k x3 x4 x5 x7 x8 x7 x1000 x1001 x1002 x117000 x117001) else (eK k x3 x4 x5 x7 x8 false x1000 x1001 x1002 x117000 x117001)
def eK:Nat→Int→List (dB)→Int→Bool→Int→Bool→List Int→Int→Int→Int→Int→Option ((List (dB))×Int×Int)
 | 0,_,_,_,_,_,_,_,_,_,_,_=>none
 | k+1,x3,x4,x5,x7,x8,x37,x1000,x1001,x1002,x117000,x117001=>if x37=true then (if 0≤x8 then (if x8<(x4.length:Int) then (eY k x3 x4 x5 (!(((aA x4 x8).f0)==x117000)||(!(((aA x4 x8).f1)==x117001))) x8 0 x1000 x1001 x1002 x117000 x117001) else (none)) else (none)) else (if x7=true then (if x4.length<8796093022208 then (dV k x3 (x4++[(⟨x117000,x117001⟩:dB)]) (wrap64 (x5+1)) x1000 x1001 x1002) else (none)) else (dV k x3 x4 (wrap64 (x5+1)) x1000 x1001 x1002))
def eY:Nat→Int→List (dB)→Int→Bool→Int→Int→List Int→Int→Int→Int→Int→Option ((List (dB))×Int×Int)
 | 0,_,_,_,_,_,_,_,_,_,_,_=>none
 | k+1,x3,x4,x5,x7,x8,x9,x1000,x1001,x1002,x117000,x117001=>if x9<x8 then (if x7=true then (if 0≤x9 then (if x9<(x4.length:Int) then (if 0≤x8 then (if x8<(x4.length:Int) then ((spec_l2Area.f ((aA x4 x9).f0) ((aA x4 x9).f1) ((aA x4 x8).f0) ((aA x4 x8).f1) x117000 x117001).bind fun t123=>(eY k x3 x4 x5 (t123 != 0) x8 (wrap64 (x9+1)) x1000 x1001 x1002 x117000 x117001)) else (none)) else (none)) else (none)) else (none)) else (eJ k x3 x4 x5 x7 (wrap64 (x8+1)) x1000 x1001 x1002 x117000 x117001)) else (eJ k x3 x4 x5 x7 (wrap64 (x8+1)) x1000 x1001 x1002 x117000 x117001)
end
def spec_l2Draw.f (k:Nat) (s0_0:List Int) (s0_1:Int) (s0_2:Int):Option ((List (dB))×Int×Int):=(spec_l1Below.f s0_0 s0_1 s0_2 4).bind fun bt101=>(dV k (wrap64 (3+bt101.1)) (([]:List (dB))) 0 s0_0 bt101.2.1 bt101.2.2)
def nX:Bool×List (List Nat×List Nat):=(true,[([],[]),([],[]),([0,1],[0,1]),([2],[2]),([],[]),([],[]),([4,5],[4,5]),([6],[6]),([],[]),([3,7,8],[3,7,8]),([9],[9]),([10,9,0,1,2,3,4,5,6,7,8,9,10],[10])])
def sY:List Nat:=[0,0,3,7,0,0,48,112,0,511,1023,2047]
theorem rG:gK .any (iQ Try.f137 15)=nX:=by kernel_rfl
theorem qM:eU nX.2 sY=true:=by kernel_rfl
set_option maxHeartbeats 8000000 in
set_option maxRecDepth 100000 in
theorem jE (k : Nat) (g : Nat) (s0_0 : List Int) (s0_1 : Int) (s0_2 : Int) (r1 : List (dB)) (r2 : Int) (r3 : Int) (w0 w : World) (hI : aX w0 w g s0_0 s0_1 s0_2) (hB : Below w0.heap.size w0 w) (h : spec_l2Draw.f k s0_0 s0_1 s0_2 = some (r1, r2, r3)) :
  Calls Try.prog 137 #[.pointer (some ⟨g,0,none⟩)] w fun e w'=>∃ v0_:Value,e=.returned (v0_)∧Kd.R gA 80 w' w.heap.size (fun _=>True) v0_ r1∧aX w0 w' g s0_0 r2 r3∧Below w0.heap.size w0 w'∧dO w w' g none:=by
 have hu80:=Try.underlying80
 have HI0:=aD hI
 have HK:=aD (dO.refl w g none)
 have HL:=aD hB.size
 clear hI
 have HW0:=aD hB.size
 have HB:=aD hB
 clear hB
 unfold spec_l2Draw.f at h
 have H:=h
 clear h
 replace H:=fQ H
 obtain ⟨⟨t101,t102,t103⟩,A2,H⟩:=H
 try dsimp only at H
 obtain ⟨y104,hy104⟩:∃ y_:List (dB),y_=(([]:List (dB))):=⟨_,rfl⟩
 first|(with_reducible replace H:=uU hy104 H)|(with_reducible replace H:=uV hy104 H)|rw [← hy104] at H
 have Ny104:=aD hy104
 clear hy104
 have H':=aD H
 clear H
 go_enter Try.func137,Try.ntmps137
 go_wp2_with (first|((with_reducible refine aV (f:=109) rfl ?_);refine bK (some 11) Try.func109 #[.pointer (some ⟨g,0,none⟩),.int .i64 4] ?_;(with_reducible refine (bE g s0_0 s0_1 s0_2 4 t101 t102 t103 w0 _ ?side1 ?side2 A2.out).mono ?_);(case side1=>exact aR HI0);(case side2=>exact cM HB (aJ HI0.out));rintro e w3 ⟨rfl,hi,hb,hk⟩;refine ⟨_,rfl,?_⟩;replace HK:=aD (dO.trans (oK HK) hk (.inl rfl));replace HB:=aD (hb);replace HI0:=aD (hi);(try clear hb);(try clear hk);(try clear hi))|((with_reducible refine aW (N:=13) rfl ?_);(try (refine fG (by rfl) ?_;dsimp only));refine Kd.R_lit gA _ 80 ?hg (N:=13) ?hd (xs:=([]:List (dB))) (inner:=[]) (ok:=fun _=>True) (okp:=fun _=>True) ?hr ?hp (fun _ hk=>hk) trivial (Below.refl _ _) (Nat.le_refl _) (by simp) ?_;(case hd=>rfl);(case hg=>rfl);(case hr=>first|(go_simp;done)|(go_simp;rfl));(case hp=>exact (iE.none _ _));intro v105 w4 ho5 hb hg_ hnew_;clear hg_ hnew_;(first|rw [← Ny104.out] at ho5|(simp only [Int.reduceToNat] at ho5;rw [← Ny104.out] at ho5));have HO106:=aD (Kd.R_lower ho5 (fS (w:=w) (g:=g) (row:=none) (oK HK)));replace HK:=aD (dO.trans (oK HK) (eP hb g none) (.inl rfl));replace HB:=aD (aE (cM HB (aJ HI0.out)) hb);replace HI0:=aD (aX.below (aR HI0) hb);clear hb ho5))
 go_loopg [4,5] k (fun kq v4 v5 w'=>∃ (x4_1:List (dB)) (x5_1:Int) (x1001_1:Int) (x1002_1:Int),v5=.int .i64 x5_1∧Aside0 (dV kq (wrap64 (3+t101)) x4_1 x5_1 s0_0 x1001_1 x1002_1=some (r1,r2,r3))∧Aside0 (kq≤k)∧Aside0 (Kd.R gA 80 w' w.heap.size (fun _=>True) v4 x4_1)∧Aside0 (aX w0 w' g s0_0 x1001_1 x1002_1)∧Aside0 (dO w w' g none)∧Aside0 (Below w0.heap.size w0 w'))
 case atStart=>exact ⟨(y104),(0),(t102),(t103),eO,H',⟨Nat.le_refl _⟩,⟨bN HO106⟩,⟨aR HI0⟩,⟨oK HK⟩,⟨cM HB (aJ HI0.out)⟩⟩
 case round =>
  clear H'
  obtain ⟨x4_1,x5_1,x1001_1,x1002_1,rfl,HA,HK1,HO_4,HI0,HK,HB⟩:=hrel
  cases gk with
  | zero=>exact absurd HA.out (by simp [dV])
  | succ k1 =>
   have H:=HA.out
   clear HA
   simp only [dV] at H
   have HC6:=aD H
   clear H
   go_upto_region 4 with (fail)
   go_cut [21] (fun v21 wc=>∃ (kq:Nat) (x21_5:Bool),v21=.bool x21_5∧Aside0 (eX kq (wrap64 (3+t101)) x4_1 x5_1 x21_5 s0_0 x1001_1 x1002_1=some (r1,r2,r3))∧Aside0 (kq≤k1)∧Aside0 (Kd.R gA 80 wc w.heap.size (fun _=>True) u4 x4_1)∧Aside0 (aX w0 wc g s0_0 x1001_1 x1002_1)∧Aside0 (dO w wc g none)∧Aside0 (Below w0.heap.size w0 wc))
   case first =>
    have H:=HC6.out
    clear HC6
    rcases mJ H with ⟨c7b0,H⟩|⟨c7b0,H⟩
    ·(first|rw [c7b0]|(simp only [aZ,bB];rw [c7b0])|skip)
     have H':=aD H
     clear H
     obtain ⟨Ao8,co8,eo8⟩:=Kd.R_slice HO_4.out
     subst eo8
     go_wp2
     go_meet
     case rel=>exact ⟨_,(decide ((x4_1.length:Int)<(wrap64 (3+t101)))),eO,H',⟨EN HK1⟩,⟨bN HO_4⟩,⟨aR HI0⟩,⟨oK HK⟩,⟨cM HB (aJ HI0.out)⟩⟩
    ·(first|rw [c7b0]|(simp only [aZ,bB];rw [c7b0])|skip)
     have H':=aD H
     clear H
     go_wp2
     go_meet
     case rel=>exact ⟨_,(false),eO,H',⟨EN HK1⟩,⟨bN HO_4⟩,⟨aR HI0⟩,⟨oK HK⟩,⟨cM HB (aJ HI0.out)⟩⟩
   case rest =>
    clear HC6
    try clear c7b0
    obtain ⟨kq,x21_5,rfl,HA,HJ5,HO_4,HI0,HK,HB⟩:=hcut
    cases kq with
    | zero=>exact absurd HA.out (by simp [eX])
    | succ kj5 =>
     have H:=HA.out
     clear HA
     simp only [eX] at H
     by_cases c9:x21_5=true
     ·subst c9
      rw [if_pos rfl] at H
      replace H:=fQ H
      obtain ⟨⟨t110,t111,t112⟩,A10,H⟩:=H
      try dsimp only at H
      replace H:=fQ H
      obtain ⟨⟨t113,t114,t115⟩,A11,H⟩:=H
      try dsimp only at H
      have H':=aD H
      clear H
      go_wp2_with (first|((with_reducible refine aV (f:=109) rfl ?_);refine bK (some 25) Try.func109 #[.pointer (some ⟨g,0,none⟩),.int .i64 13] ?_;(with_reducible refine (bE g s0_0 x1001_1 x1002_1 13 t110 t111 t112 w0 _ ?side1 ?side2 A10.out).mono ?_);(case side1=>exact aR HI0);(case side2=>exact cM HB (aJ HI0.out));rintro e w12 ⟨rfl,hi,hb,hk⟩;refine ⟨_,rfl,?_⟩;replace HO_4:=aD (Kd.R_mono (Kd.R_keep (aX.apart (show aX w0 _ g s0_0 x1001_1 x1002_1 from aR HI0) (bN HO_4) (by decide)) hk (fun _ h=>h.2)) (fun _ h=>h.1));replace HK:=aD (dO.trans (oK HK) hk (.inl rfl));replace HB:=aD (hb);replace HI0:=aD (hi);(try clear hb);(try clear hk);(try clear hi))|((with_reducible refine aV (f:=109) rfl ?_);refine bK (some 28) Try.func109 #[.pointer (some ⟨g,0,none⟩),.int .i64 13] ?_;(with_reducible refine (bE g s0_0 t111 t112 13 t113 t114 t115 w0 _ ?side1 ?side2 A11.out).mono ?_);(case side1=>exact aR HI0);(case side2=>exact cM HB (aJ HI0.out));rintro e w13 ⟨rfl,hi,hb,hk⟩;refine ⟨_,rfl,?_⟩;replace HO_4:=aD (Kd.R_mono (Kd.R_keep (aX.apart (show aX w0 _ g s0_0 t111 t112 from aR HI0) (bN HO_4) (by decide)) hk (fun _ h=>h.2)) (fun _ h=>h.1));replace HK:=aD (dO.trans (oK HK) hk (.inl rfl));replace HB:=aD (hb);replace HI0:=aD (hi);(try clear hb);(try clear hk);(try clear hi))|((with_reducible refine aW (N:=6) rfl ?_);(try (refine fG (by rfl) ?_;dsimp only));refine bS (N:=6) #[.int .i64 0,.int .i64 0] 80 ?_;intro gb116 hg w14 hbox hb;replace HO_4:=aD (Kd.R_below (Kd.R_elderB (bN HO_4) gb116 (Nat.le_of_eq hg.symm)) hb);replace HB:=aD (aE (cM HB (aJ HI0.out)) hb);have BK116:=aD (hbox);have GW116:=aD ((by rw [hg];exact (fS (w:=w) (g:=g) (row:=none) (oK HK)):w.heap.size≤gb116));have GE116:=aD ((Nat.le_trans HW0.out (by rw [hg];exact (fS (w:=w) (g:=g) (row:=none) (oK HK)):w.heap.size≤gb116):w0.heap.size≤gb116));replace HK:=aD (dO.trans (oK HK) (eP hb g none) (.inl rfl));have NB0_116:=aD ((by rw [hg];exact Nat.ne_of_lt (bF (show aX w0 _ g s0_0 t114 t115 from aR HI0)):g≠gb116));have NB116_0:=aD ((by rw [hg];exact Nat.ne_of_gt (bF (show aX w0 _ g s0_0 t114 t115 from aR HI0)):gb116≠g));replace HI0:=aD (aX.below (aR HI0) hb);clear hb hbox hg;have hnb15:=NB116_0.out;have hnc15:=NB0_116.out;have hcz16_0:=aT BK116 0;have hcz16_1:=aT BK116 1;have hfz16_0:=aC BK116.out 0;have hfz16_1:=aC BK116.out 1))
      go_loopg [7,8] kj5 (fun kq v7 v8 w'=>∃ (x7_3:Bool) (x8_3:Int),v7=.bool x7_3∧v8=.int .i64 x8_3∧Aside0 (eJ kq (wrap64 (3+t101)) x4_1 x5_1 x7_3 x8_3 s0_0 t114 t115 (wrap64 (t110-6)) (wrap64 (t113-6))=some (r1,r2,r3))∧Aside0 (kq≤kj5)∧Aside0 (Kd.R gA 80 w' w.heap.size (fun k_=>k_≠gb116) u4 x4_1)∧Aside0 (w'.heap[gb116]? = some (.cells #[.int .i64 (wrap64 (t110-6)),.int .i64 (wrap64 (t113-6))] 80 (0,0)))∧Aside0 (aX w0 w' g s0_0 t114 t115)∧Aside0 (dO w w' g none)∧Aside0 (Below w0.heap.size w0 w'))
      case atStart=>exact ⟨(true),(0),eO,eO,H',⟨Nat.le_refl _⟩,⟨by (with_reducible repeat (first|apply fK|apply gF|apply eQ));exact Kd.R_mono (Kd.R_far (p:=⟨gb116,1,none⟩) (Kd.R_far (p:=⟨gb116,0,none⟩) (Kd.R_mono HO_4.out (fun k_ hk=>(⟨hk,hk.2⟩:_∧k_≠gb116))) (fun _ hk=>hk.2) (.int .i64 (wrap64 (t110-6)))) (fun _ hk=>hk.2) (.int .i64 (wrap64 (t113-6)))) (fun _ hk=>hk.1.2)⟩,⟨eW BK116⟩,⟨aR HI0⟩,⟨by repeat (first|(with_reducible first|exact HK.out|apply bQ|apply cD|apply cK|apply cE|refine cO ?_ GW116.out _)|exact HK.out)⟩,⟨cM HB (aJ HI0.out)⟩⟩
      case round =>
       clear H'
       try clear c7b0
       try clear c9
       try clear hcz16_0
       try clear hcz16_1
       try clear hfz16_0
       try clear hfz16_1
       obtain ⟨x7_3,x8_3,rfl,rfl,HA,HK3,HO_4,BK116,HI0,HK,HB⟩:=hrel
       cases gk with
       | zero=>exact absurd HA.out (by simp [eJ])
       | succ k3 =>
        have H:=HA.out
        clear HA
        simp only [eJ] at H
        have HC17:=aD H
        clear H
        go_upto_region 9 with (fail)
        go_cut [37] (fun v37 wc=>∃ (kq:Nat) (x37_16:Bool),v37=.bool x37_16∧Aside0 (eK kq (wrap64 (3+t101)) x4_1 x5_1 x7_3 x8_3 x37_16 s0_0 t114 t115 (wrap64 (t110-6)) (wrap64 (t113-6))=some (r1,r2,r3))∧Aside0 (kq≤k3)∧Aside0 (Kd.R gA 80 wc w.heap.size (fun k_=>k_≠gb116) u4 x4_1)∧Aside0 (wc.heap[gb116]? = some (.cells #[.int .i64 (wrap64 (t110-6)),.int .i64 (wrap64 (t113-6))] 80 (0,0)))∧Aside0 (aX w0 wc g s0_0 t114 t115)∧Aside0 (dO w wc g none)∧Aside0 (Below w0.heap.size w0 wc))
        case first =>
         have H:=HC17.out
         clear HC17
         rcases mJ H with ⟨c18b0,H⟩|⟨c18b0,H⟩
         ·(first|rw [c18b0]|(simp only [aZ,bB];rw [c18b0])|skip)
          have H':=aD H
          clear H
          obtain ⟨Ao19,co19,eo19⟩:=Kd.R_slice HO_4.out
          subst eo19
          go_wp2
          go_meet
          case rel=>exact ⟨_,(x7_3),eO,H',⟨by have:=HK1.out;have:=HJ5.out;have:=HK3.out;first|omega|exact Nat.le_refl _⟩,⟨bN HO_4⟩,⟨cF BK116⟩,⟨aR HI0⟩,⟨by repeat (first|(with_reducible first|exact HK.out|apply bQ|apply cD|apply cK|apply cE|refine cO ?_ GW116.out _)|exact HK.out)⟩,⟨cM HB (aJ HI0.out)⟩⟩
         ·(first|rw [c18b0]|(simp only [aZ,bB];rw [c18b0])|skip)
          have H':=aD H
          clear H
          obtain ⟨Ao20,co20,eo20⟩:=Kd.R_slice HO_4.out
          subst eo20
          go_wp2
          go_meet
          case rel=>exact ⟨_,(false),eO,H',⟨by have:=HK1.out;have:=HJ5.out;have:=HK3.out;first|omega|exact Nat.le_refl _⟩,⟨bN HO_4⟩,⟨cF BK116⟩,⟨aR HI0⟩,⟨by repeat (first|(with_reducible first|exact HK.out|apply bQ|apply cD|apply cK|apply cE|refine cO ?_ GW116.out _)|exact HK.out)⟩,⟨cM HB (aJ HI0.out)⟩⟩
        case rest =>
         clear HC17
         try clear c7b0
         try clear c9
         try clear c18b0
         try clear hcz16_0
         try clear hcz16_1
         try clear hfz16_0
         try clear hfz16_1
         obtain ⟨kq,x37_16,rfl,HA,HJ16,HO_4,BK116,HI0,HK,HB⟩:=hcut
         cases kq with
         | zero=>exact absurd HA.out (by simp [eK])
         | succ kj16 =>
          have H:=HA.out
          clear HA
          simp only [eK] at H
          by_cases c21:x37_16=true
          ·subst c21
           rw [if_pos rfl] at H
           obtain ⟨c22b0,H⟩:=jU H
           obtain ⟨c23b0,H⟩:=jU H
           have H':=aD H
           clear H
           try go_wp2
           replace HO_4:=aD (eQ HO_4.out)
           replace BK116:=aD (aK BK116.out)
           replace HI0:=aD (aX.drew HI0.out)
           replace HK:=aD (cK HK.out)
           replace HB:=aD (lC HB.out)
           obtain ⟨Ao25,co25,eo25⟩:=Kd.R_slice HO_4.out
           (first|subst eo25|(injection eo25 with f1_ f2_ f3_;have f4_:=f1_.symm;have f5_:=f3_.symm;clear f1_ f2_ f3_;subst f4_;subst f5_))
           obtain ⟨p120,q120,ad120,e120,hx120_0,hx120_1⟩:=wC (cC (Kd.R_reads' HO_4.out).2.2 x8_3)
           cases e120
           refine eE (n:=7) (S:=fun w'=>w'.cell? ⟨gb116,0,none⟩=some (.int .i64 (wrap64 (t110-6)))∧w'.cell? ⟨gb116,1,none⟩=some (.int .i64 (wrap64 (t113-6)))∧w'.cell? (ad120.add ((x8_3).toNat*2))=some (.int .i64 ((aA x4_1 x8_3).f0))∧w'.cell? ⟨(ad120.add ((x8_3).toNat*2)).block,(ad120.add ((x8_3).toNat*2)).off+1,none⟩=some (.int .i64 ((aA x4_1 x8_3).f1))) (ds:=[]) (bm 7 0) (by kernel_rfl) rfl rfl ⟨aT BK116 0,aT BK116 1,hx120_0,hx120_1⟩ (fun hHeld=>?_)
           generalize wc.drew=w24 at HO_4 BK116 HI0 HK HB hx120_0 hx120_1 hHeld ⊢
           refine jY (i:=0) (N:=some 40) (v:=?_) (a':=?_) (bm 7 1) rfl rfl (by kernel_rfl) (fun _ _ _ h=>h) (Or.inl ⟨by rfl,?_⟩) ?_ ?_
           rotate_left
           ·intro w'
            go_simp
            with_reducible rfl
           rotate_left
           ·simp only [Act.put,List.setIfInBounds_toArray,List.set_cons_zero,List.set_cons_succ,aZ,bB]
            rfl
           refine jY (i:=1) (N:=some 41) (v:=?_) (a':=?_) (bm 7 3) rfl rfl (by kernel_rfl) (fun _ _ _ h=>h) (Or.inl ⟨by rfl,?_⟩) ?_ ?_
           rotate_left
           ·intro w'
            go_simp
            with_reducible rfl
           rotate_left
           ·simp only [Act.put,List.setIfInBounds_toArray,List.set_cons_zero,List.set_cons_succ,aZ,bB]
            rfl
           refine jY (i:=2) (N:=some 42) (v:=?_) (a':=?_) (bm 7 7) rfl rfl (by kernel_rfl) (fun _ _ _ h=>h) (Or.inl ⟨by rfl,?_⟩) ?_ ?_
           rotate_left
           ·intro w'
            go_simp
            with_reducible rfl
           rotate_left
           ·simp only [Act.put,List.setIfInBounds_toArray,List.set_cons_zero,List.set_cons_succ,aZ,bB]
            rfl
           refine pW (i:=3) (N:=some 43) (v:=?_) (a':=?_) (bm 7 15) rfl rfl (by kernel_rfl) (fun _ _ _ h=>h) (Or.inl ⟨by rfl,?_⟩) hHeld ?_ ?_
           rotate_left
           ·rintro w' ⟨s0,s1,s2,s3⟩
            go_simp
            with_reducible rfl
           rotate_left
           ·simp only [Act.put,List.setIfInBounds_toArray,List.set_cons_zero,List.set_cons_succ,aZ,bB]
            rfl
           refine pW (i:=4) (N:=some 44) (v:=?_) (a':=?_) (bm 7 31) rfl rfl (by kernel_rfl) (fun _ _ _ h=>h) (Or.inl ⟨by rfl,?_⟩) hHeld ?_ ?_
           rotate_left
           ·rintro w' ⟨s0,s1,s2,s3⟩
            go_simp
            with_reducible rfl
           rotate_left
           ·simp only [Act.put,List.setIfInBounds_toArray,List.set_cons_zero,List.set_cons_succ,aZ,bB]
            rfl
           refine jY (i:=5) (N:=some 45) (v:=?_) (a':=?_) (bm 7 63) rfl rfl (by kernel_rfl) (fun _ _ _ h=>h) (Or.inl ⟨by rfl,?_⟩) ?_ ?_
           rotate_left
           ·intro w'
            go_simp
            with_reducible rfl
           rotate_left
           ·simp only [Act.put,List.setIfInBounds_toArray,List.set_cons_zero,List.set_cons_succ,aZ,bB]
            rfl
           refine jY (i:=6) (N:=some 7) (v:=?_) (a':=?_) (bm 7 127) rfl rfl (by kernel_rfl) (fun _ _ _ h=>h) (Or.inl ⟨by rfl,?_⟩) ?_ ?_
           rotate_left
           ·intro w'
            go_simp
            with_reducible rfl
           rotate_left
           ·simp only [Act.put,List.setIfInBounds_toArray,List.set_cons_zero,List.set_cons_succ,aZ,bB]
            rfl
           refine dD (by kernel_rfl) ?_
           try go_wp2
           go_loopg [7,9] kj16 (fun kq v7 v9 w'=>∃ (x7_5:Bool) (x9_5:Int),v7=.bool x7_5∧v9=.int .i64 x9_5∧Aside0 (eY kq (wrap64 (3+t101)) x4_1 x5_1 x7_5 x8_3 x9_5 s0_0 t114 t115 (wrap64 (t110-6)) (wrap64 (t113-6))=some (r1,r2,r3))∧Aside0 (kq≤kj16)∧Aside0 (Kd.R gA 80 w' w.heap.size (fun k_=>k_≠gb116) (.slice (some ad120) x4_1.length co25) x4_1)∧Aside0 (w'.heap[gb116]? = some (.cells #[.int .i64 (wrap64 (t110-6)),.int .i64 (wrap64 (t113-6))] 80 (0,0)))∧Aside0 (aX w0 w' g s0_0 t114 t115)∧Aside0 (dO w w' g none)∧Aside0 (Below w0.heap.size w0 w'))
           case atStart=>exact ⟨((!(((aA x4_1 x8_3).f0)==(wrap64 (t110-6)))||(!(((aA x4_1 x8_3).f1)==(wrap64 (t113-6)))))),(0),eO,eO,H',⟨Nat.le_refl _⟩,⟨bN HO_4⟩,⟨cF BK116⟩,⟨aR HI0⟩,⟨by repeat (first|(with_reducible first|exact HK.out|apply bQ|apply cD|apply cK|apply cE|refine cO ?_ GW116.out _)|exact HK.out)⟩,⟨cM HB (aJ HI0.out)⟩⟩
           case round =>
            clear H'
            try clear c2
            try clear c7b0
            try clear c9
            try clear c18b0
            try clear c21
            try clear c22b0
            try clear c23b0
            try clear hcz16_0
            try clear hcz16_1
            try clear hfz16_0
            try clear hfz16_1
            try clear hx120_0
            try clear hx120_1
            try clear p120
            try clear q120
            obtain ⟨x7_5,x9_5,rfl,rfl,HA,HK5,HO_4,BK116,HI0,HK,HB⟩:=hrel
            cases gk with
            | zero=>exact absurd HA.out (by simp [eY])
            | succ k5 =>
             have H:=HA.out
             clear HA
             simp only [eY] at H
             rcases mJ H with ⟨c26b0,H⟩|⟨c26b0,H⟩
             ·by_cases c27:x7_5=true
              ·subst c27
               rw [if_pos rfl] at H
               obtain ⟨c28b0,H⟩:=jU H
               obtain ⟨c29b0,H⟩:=jU H
               obtain ⟨c30b0,H⟩:=jU H
               obtain ⟨c31b0,H⟩:=jU H
               replace H:=iS H
               obtain ⟨t123,A320,H⟩:=H
               replace H:(eY k5 (wrap64 (3+t101)) x4_1 x5_1 (t123 != 0) x8_3 (wrap64 (x9_5+1)) s0_0 t114 t115 (wrap64 (t110-6)) (wrap64 (t113-6)))=some (r1,r2,r3):=H
               have A32:=aD A320
               clear A320
               have H':=aD H
               clear H
               try go_wp2
               replace HO_4:=aD (eQ HO_4.out)
               replace BK116:=aD (aK BK116.out)
               replace HI0:=aD (aX.drew HI0.out)
               replace HK:=aD (cK HK.out)
               replace HB:=aD (lC HB.out)
               obtain ⟨p121,q121,ad121,e121,hx121_0,hx121_1⟩:=wC (cC (Kd.R_reads' HO_4.out).2.2 x9_5)
               obtain rfl:ad120=ad121:=(by injection e121)
               obtain ⟨p122,q122,ad122,e122,hx122_0,hx122_1⟩:=wC (cC (Kd.R_reads' HO_4.out).2.2 x8_3)
               obtain rfl:ad120=ad122:=(by injection e122)
               refine eE (n:=12) (S:=fun w'=>w'.cell? ⟨gb116,0,none⟩=some (.int .i64 (wrap64 (t110-6)))∧w'.cell? ⟨gb116,1,none⟩=some (.int .i64 (wrap64 (t113-6)))∧w'.cell? (ad120.add ((x9_5).toNat*2))=some (.int .i64 ((aA x4_1 x9_5).f0))∧w'.cell? ⟨(ad120.add ((x9_5).toNat*2)).block,(ad120.add ((x9_5).toNat*2)).off+1,none⟩=some (.int .i64 ((aA x4_1 x9_5).f1))∧w'.cell? (ad120.add ((x8_3).toNat*2))=some (.int .i64 ((aA x4_1 x8_3).f0))∧w'.cell? ⟨(ad120.add ((x8_3).toNat*2)).block,(ad120.add ((x8_3).toNat*2)).off+1,none⟩=some (.int .i64 ((aA x4_1 x8_3).f1))) (ds:=[]) (bm 12 0) (by kernel_rfl) rfl rfl ⟨aT BK116 0,aT BK116 1,hx121_0,hx121_1,hx122_0,hx122_1⟩ (fun hHeld=>?_);refine cX rG qM (fun HT_ HW_=>?_)
               generalize wr.drew=w33 at HO_4 BK116 HI0 HK HB hx121_0 hx121_1 hx122_0 hx122_1 hHeld ⊢
               refine dG ((0,0,54,1)::(0,1,55,3)::(0,2,56,7)::(0,4,58,23)::(0,5,59,55)::(0,6,60,119)::(2,3,57,127)::(2,7,61,255)::(2,8,62,511)::[]) ?_
               iterate 9 (first|refine jT HT_ ?_|refine qB HT_ HW_ hHeld ?_)
               refine bL ?_
               refine cS (i:=9) (N:=some 63) (bm 12 1023) rfl rfl (bI HT_.out (by kernel_rfl)) (by decide) (fun K hK=>?_)
               refine bP Try.func154 #[.agg #[.int .i64 ((aA x4_1 x9_5).f0),.int .i64 ((aA x4_1 x9_5).f1)],.agg #[.int .i64 ((aA x4_1 x8_3).f0),.int .i64 ((aA x4_1 x8_3).f1)],.agg #[.int .i64 (wrap64 (t110-6)),.int .i64 (wrap64 (t113-6))]] ?_
               with_reducible refine (rF ((aA x4_1 x9_5).f0) ((aA x4_1 x9_5).f1) ((aA x4_1 x8_3).f0) ((aA x4_1 x8_3).f1) (wrap64 (t110-6)) (wrap64 (t113-6)) t123 _ A32.out).mono ?_
               rintro e w34 ⟨rfl,hb⟩
               have HS2_:=cP hb hHeld.2.2.1
               have HS3_:=cP hb hHeld.2.2.2.1
               have HS4_:=cP hb hHeld.2.2.2.2.1
               have HS5_:=cP hb hHeld.2.2.2.2.2
               refine ⟨_,rfl,?_⟩
               replace HO_4:=aD (Kd.R_below (bN HO_4) hb)
               replace BK116:=aD (aU BK116 hb)
               replace HK:=aD (dO.trans (by repeat (first|(with_reducible first|exact HK.out|apply bQ|apply cD|apply cK|apply cE|refine cO ?_ GW116.out _)|exact HK.out)) (eP hb g none) (.inl rfl))
               replace HB:=aD (aE (cM HB (aJ HI0.out)) hb)
               replace HI0:=aD (aX.below (aR HI0) hb)
               (try clear hb)
               (try clear hk)
               (try clear hi)
               refine hK.out _ _ ⟨aT BK116 0,aT BK116 1,HS2_,HS3_,HS4_,HS5_⟩ (fun hHeld=>?_)
               clear hK K
               refine wH ?_
               refine dG ((0,10,64,2047)::(0,11,7,4095)::[]) ?_
               iterate 2 (first|refine jT HT_ ?_)
               refine bL ?_
               refine dD (dZ HT_.out (by kernel_rfl)) ?_
               try go_wp2
               go_roundg k5
               case measure=>have:=HK1.out;have:=HJ5.out;have:=HK3.out;have:=HJ16.out;have:=HK5.out;omega
               case rel=>exact ⟨((t123 != 0)),(wrap64 (x9_5+1)),eO,eO,H',⟨by have:=HK1.out;have:=HJ5.out;have:=HK3.out;have:=HJ16.out;have:=HK5.out;omega⟩,⟨bN HO_4⟩,⟨cF BK116⟩,⟨aR HI0⟩,⟨by repeat (first|(with_reducible first|exact HK.out|apply bQ|apply cD|apply cK|apply cE|refine cO ?_ GW116.out _)|exact HK.out)⟩,⟨cM HB (aJ HI0.out)⟩⟩
              ·replace c27:=Bool.eq_false_iff.mpr c27
               subst c27
               rw [if_neg (show ¬ (false=true) by decide)] at H
               have H':=aD H
               clear H
               go_wp2
               go_roundg k5
               case measure=>have:=HK1.out;have:=HJ5.out;have:=HK3.out;have:=HJ16.out;have:=HK5.out;omega
               case rel=>exact ⟨(false),(wrap64 (x8_3+1)),eO,eO,H',⟨by have:=HK1.out;have:=HJ5.out;have:=HK3.out;have:=HJ16.out;have:=HK5.out;omega⟩,⟨bN HO_4⟩,⟨cF BK116⟩,⟨aR HI0⟩,⟨by repeat (first|(with_reducible first|exact HK.out|apply bQ|apply cD|apply cK|apply cE|refine cO ?_ GW116.out _)|exact HK.out)⟩,⟨cM HB (aJ HI0.out)⟩⟩
             ·have H':=aD H
              clear H
              go_wp2
              go_roundg k5
              case measure=>have:=HK1.out;have:=HJ5.out;have:=HK3.out;have:=HJ16.out;have:=HK5.out;omega
              case rel=>exact ⟨(x7_5),(wrap64 (x8_3+1)),eO,eO,H',⟨by have:=HK1.out;have:=HJ5.out;have:=HK3.out;have:=HJ16.out;have:=HK5.out;omega⟩,⟨bN HO_4⟩,⟨cF BK116⟩,⟨aR HI0⟩,⟨by repeat (first|(with_reducible first|exact HK.out|apply bQ|apply cD|apply cK|apply cE|refine cO ?_ GW116.out _)|exact HK.out)⟩,⟨cM HB (aJ HI0.out)⟩⟩
          ·replace c21:=Bool.eq_false_iff.mpr c21
           subst c21
           rw [if_neg (show ¬ (false=true) by decide)] at H
           by_cases c35:x7_3=true
           ·subst c35
            rw [if_pos rfl] at H
            obtain ⟨c36,H⟩:=iC H
            have LMc36:=aD c36
            clear c36
            obtain ⟨y117,hy117⟩:∃ y_:List (dB),y_=(x4_1++[(⟨(wrap64 (t110-6)),(wrap64 (t113-6))⟩:dB)]):=⟨_,rfl⟩
            first|(with_reducible replace H:=uU hy117 H)|(with_reducible replace H:=uV hy117 H)|rw [← hy117] at H
            have Ny117:=aD hy117
            clear hy117
            have H':=aD H
            clear H
            have hnb37:=NB116_0.out
            have hnc37:=NB0_116.out
            have hcz38_0:=aT BK116 0
            have hcz38_1:=aT BK116 1
            have hfz38_0:=aC BK116.out 0
            have hfz38_1:=aC BK116.out 1
            go_wp2_with (first|((with_reducible refine fL (b:=.append) (xs:=#[.tmp 66,.tmp 68]) rfl ?_);(try (refine fG (by rfl) ?_;dsimp only));at_builtin;refine Kd.R_append gA w.heap.size rfl (.tmp 66) (.tmp 68) 61 80 (.agg #[(.int .i64 0),(.int .i64 0)]) 16 rfl Try.underlying61 qA rfl (by decide) (by omega) u4 x4_1 (⟨(wrap64 (t110-6)),(wrap64 (t113-6))⟩:dB) [.int .i64 (wrap64 (t110-6)),.int .i64 (wrap64 (t113-6))] (fun k_=>k_≠gb116) (fun _=>False) rfl rfl ?aP (fun _ hk=>hk.elim) ?aF ?aO (Below.refl _ _) ?aS ?aL ?_;(case aP=>exact gE _ _ _ (⟨(wrap64 (t110-6)),(wrap64 (t113-6))⟩:dB));(case aF=>exact (fun k_ hk=>Kd.freshB (g:=gb116) (o:=.cells #[.int .i64 (wrap64 (t110-6)),.int .i64 (wrap64 (t113-6))] 80 (0,0)) (cF BK116) k_ hk));(case aO=>exact (bN HO_4));(case aS=>exact (fS (w:=w) (g:=g) (row:=none) (by repeat (first|(with_reducible first|exact HK.out|apply bQ|apply cD|apply cK|apply cE|refine cO ?_ GW116.out _)|exact HK.out))));(case aL=>have:=LMc36.out;omega);intro v118 w39 ho hb hg hat;rw [← Ny117.out] at ho;replace BK116:=aD (pA (g:=gb116) (o:=.cells #[.int .i64 (wrap64 (t110-6)),.int .i64 (wrap64 (t113-6))] 80 (0,0)) (cF BK116) hg (Kd.R_away HO_4.out (fun _ hk=>hk)));replace HB:=aD (vZ (cM HB (aJ HI0.out)) HL.out hb);replace HI0:=aD (aX.grown (aR HI0) hg (aY HI0.out HO_4.out (by decide)));replace HK:=aD (dO.trans (by repeat (first|(with_reducible first|exact HK.out|apply bQ|apply cD|apply cK|apply cE|refine cO ?_ GW116.out _)|exact HK.out)) (mE hg g) (Kd.R_base2 HO_4.out));have HO119:=aD (ho);clear HO_4;clear ho hb hg hat))
            go_roundg kj16
            case measure=>have:=HK1.out;have:=HJ5.out;have:=HK3.out;have:=HJ16.out;omega
            case rel=>exact ⟨(y117),(wrap64 (x5_1+1)),(t114),(t115),eO,H',⟨by have:=HK1.out;have:=HJ5.out;have:=HK3.out;have:=HJ16.out;omega⟩,⟨by (with_reducible repeat (first|apply fK|apply gF|apply eQ));exact Kd.R_mono HO119.out (fun _ hk=>trivial)⟩,⟨aR HI0⟩,⟨by repeat (first|(with_reducible first|exact HK.out|apply bQ|apply cD|apply cK|apply cE|refine cO ?_ GW116.out _)|exact HK.out)⟩,⟨cM HB (aJ HI0.out)⟩⟩
           ·replace c35:=Bool.eq_false_iff.mpr c35
            subst c35
            rw [if_neg (show ¬ (false=true) by decide)] at H
            have H':=aD H
            clear H
            go_wp2
            go_roundg kj16
            case measure=>have:=HK1.out;have:=HJ5.out;have:=HK3.out;have:=HJ16.out;omega
            case rel=>exact ⟨(x4_1),(wrap64 (x5_1+1)),(t114),(t115),eO,H',⟨by have:=HK1.out;have:=HJ5.out;have:=HK3.out;have:=HJ16.out;omega⟩,⟨by (with_reducible repeat (first|apply fK|apply gF|apply eQ));exact Kd.R_mono HO_4.out (fun _ hk=>trivial)⟩,⟨aR HI0⟩,⟨by repeat (first|(with_reducible first|exact HK.out|apply bQ|apply cD|apply cK|apply cE|refine cO ?_ GW116.out _)|exact HK.out)⟩,⟨cM HB (aJ HI0.out)⟩⟩
     ·replace c9:=Bool.eq_false_iff.mpr c9
      subst c9
      rw [if_neg (show ¬ (false=true) by decide)] at H
      rcases kK H with ⟨c40,H⟩|⟨c40,H⟩
      ·have c40b0:=decide_eq_true c40
       have c40b1:decide (x4_1.length<3)=true:=decide_eq_true (by omega)
       clear c40
       obtain ⟨y107,hy107⟩:∃ y_:List (dB),y_=(([(⟨0,0⟩:dB),(⟨4,1⟩:dB),(⟨1,3⟩:dB),(⟨2,2⟩:dB)]:List (dB))):=⟨_,rfl⟩
       first|(with_reducible replace H:=uU hy107 H)|(with_reducible replace H:=uV hy107 H)|rw [← hy107] at H
       have Ny107:=aD hy107
       clear hy107
       simp only [Option.some.injEq,Prod.mk.injEq] at H
       obtain ⟨rfl,rfl,rfl⟩:=H
       obtain ⟨Ao41,co41,eo41⟩:=Kd.R_slice HO_4.out
       subst eo41
       go_wp2_with (first|((with_reducible refine aW (N:=77) rfl ?_);(try (refine fG (by rfl) ?_;dsimp only));refine Kd.R_lit gA _ 80 ?hg (N:=77) ?hd (xs:=([(⟨0,0⟩:dB),(⟨4,1⟩:dB),(⟨1,3⟩:dB),(⟨2,2⟩:dB)]:List (dB))) (inner:=[.int .i64 0,.int .i64 0,.int .i64 4,.int .i64 1,.int .i64 1,.int .i64 3,.int .i64 2,.int .i64 2]) (ok:=fun _=>True) (okp:=fun _=>True) ?hr ?hp (fun _ hk=>hk) trivial (Below.refl _ _) (Nat.le_refl _) (by simp) ?_;(case hd=>rfl);(case hg=>rfl);(case hr=>first|(go_simp;done)|(go_simp;rfl));(case hp=>exact (iK (show Kd.M gA _ _ _ (⟨0,0⟩:dB) [.int .i64 0,.int .i64 0] from (gE _ _ _ (⟨0,0⟩:dB) )) (iK (show Kd.M gA _ _ _ (⟨4,1⟩:dB) [.int .i64 4,.int .i64 1] from (gE _ _ _ (⟨4,1⟩:dB) )) (iK (show Kd.M gA _ _ _ (⟨1,3⟩:dB) [.int .i64 1,.int .i64 3] from (gE _ _ _ (⟨1,3⟩:dB) )) (iK (show Kd.M gA _ _ _ (⟨2,2⟩:dB) [.int .i64 2,.int .i64 2] from (gE _ _ _ (⟨2,2⟩:dB) )) (iE.none _ _))))));intro v108 w42 ho43 hb hg_ hnew_;clear hg_ hnew_;(first|rw [← Ny107.out] at ho43|(simp only [Int.reduceToNat] at ho43;rw [← Ny107.out] at ho43));have HO109:=aD (Kd.R_lower (Kd.R_new' ho43 (Kd.R_lt (bN HO_4))) (fS (w:=w) (g:=g) (row:=none) (oK HK)));replace HO_4:=aD (Kd.R_elder' (bN HO_4) (Kd.R_base ho43) hb);replace HK:=aD (dO.trans (oK HK) (eP hb g none) (.inl rfl));replace HB:=aD (aE (cM HB (aJ HI0.out)) hb);replace HI0:=aD (aX.below (aR HI0) hb);clear hb ho43))
       go_ret
       exact ⟨_,dA,by (with_reducible repeat (first|apply fK|apply gF|apply eQ));exact Kd.R_mono HO109.out (fun _ hk=>trivial),aR HI0,cM HB (aJ HI0.out),oK HK⟩
      ·have c40b0:=decide_eq_false c40
       have c40b1:decide (x4_1.length<3)=false:=decide_eq_false (by omega)
       clear c40
       simp only [Option.some.injEq,Prod.mk.injEq] at H
       obtain ⟨rfl,rfl,rfl⟩:=H
       obtain ⟨Ao44,co44,eo44⟩:=Kd.R_slice HO_4.out
       subst eo44
       go_wp2
       go_ret
       exact ⟨_,dA,bN HO_4,aR HI0,cM HB (aJ HI0.out),oK HK⟩
end Go.Proofs.Ytldcckcljjlglaa.P

namespace Go.Proofs.Ytldcckcljjlglaa.P
open Go.RowKit Go.Proofs.YtldcckcljjlglaaW.PrintWords Go.Proofs.YtldcckcljjlglaaW.PrintLast Go.Proofs.YtldcckcljjlglaaW.PrintMore
attribute [local go_sem] max2_int min2_int max_two min_two max_three min_three max_four min_four
set_option linter.unusedVariables false
set_option linter.unusedSimpArgs false
/-! ### spec_l26Far: function 138 -/
def spec_l26Far.f (a0_0:Int) (a0_1:Int) (a1_0:Int) (a1_1:Int) (a2:Int):Option (Int×Int):=some (wrap64 (a0_0+(wrap64 (a2*(wrap64 (a1_0-a0_0))))),wrap64 (a0_1+(wrap64 (a2*(wrap64 (a1_1-a0_1))))))
set_option maxHeartbeats 8000000 in
set_option maxRecDepth 100000 in
theorem dP (a0_0:Int) (a0_1:Int) (a1_0:Int) (a1_1:Int) (a2:Int) (r1:Int) (r2:Int) (w:World) (h:spec_l26Far.f a0_0 a0_1 a1_0 a1_1 a2=some (r1,r2)) :
  Calls Try.prog 138 #[.agg #[.int .i64 a0_0,.int .i64 a0_1],.agg #[.int .i64 a1_0,.int .i64 a1_1],.int .i64 a2] w fun e w'=>e=.returned (.agg #[.int .i64 r1,.int .i64 r2])∧Below w.heap.size w w':=by
 have hu80:=Try.underlying80
 have HB:=aD (Below.refl w.heap.size w)
 unfold spec_l26Far.f at h
 have H:=h
 clear h
 simp only [Option.some.injEq,Prod.mk.injEq] at H
 obtain ⟨rfl,rfl⟩:=H
 go_enter Try.func138,Try.ntmps138
 go_wp2_with (first|((with_reducible refine aW (N:=3) rfl ?_);refine bS (N:=3) #[.int .i64 a0_0,.int .i64 a0_1] 80 ?_;intro gb101 hg w4 hbox hb;have BK101:=aD (hbox);have GW101:=aD ((cZ HB hg));have GE101:=aD ((cZ HB hg));replace HB:=aD (aE (bM HB) hb);clear hb hbox hg)|((with_reducible refine aW (N:=4) rfl ?_);refine bS (N:=4) #[.int .i64 a1_0,.int .i64 a1_1] 80 ?_;intro gb102 hg w5 hbox hb;have BK102:=aD (hbox);have GW102:=aD ((cZ HB hg));have GE102:=aD ((cZ HB hg));replace HB:=aD (aE (bM HB) hb);have NB101_102:=aD ((bW BK101 hg));have NB102_101:=aD ((bX BK101 hg));replace BK101:=aD (aU BK101 hb);clear hb hbox hg)|((with_reducible refine aW (N:=6) rfl ?_);refine bS (N:=6) #[.int .i64 0,.int .i64 0] 80 ?_;intro gb103 hg w6 hbox hb;have BK103:=aD (hbox);have GW103:=aD ((cZ HB hg));have GE103:=aD ((cZ HB hg));replace HB:=aD (aE (bM HB) hb);have NB101_103:=aD ((bW BK101 hg));have NB103_101:=aD ((bX BK101 hg));replace BK101:=aD (aU BK101 hb);have NB102_103:=aD ((bW BK102 hg));have NB103_102:=aD ((bX BK102 hg));replace BK102:=aD (aU BK102 hb);clear hb hbox hg;have hnb7:=NB101_102.out;have hnc7:=NB102_101.out;have hnb8:=NB101_103.out;have hnc8:=NB103_101.out;have hcz9_0:=aT BK101 0;have hcz9_1:=aT BK101 1;have hfz9_0:=aC BK101.out 0;have hfz9_1:=aC BK101.out 1;have hnb10:=NB102_103.out;have hnc10:=NB103_102.out;have hcz11_0:=aT BK102 0;have hcz11_1:=aT BK102 1;have hfz11_0:=aC BK102.out 0;have hfz11_1:=aC BK102.out 1;have hcz12_0:=aT BK103 0;have hcz12_1:=aT BK103 1;have hfz12_0:=aC BK103.out 0;have hfz12_1:=aC BK103.out 1))
 refine bodyPost_ret (results_cell_row rfl _ _ gb103 80 #[.int .i64 (wrap64 (a0_0+(wrap64 (a2*(wrap64 (a1_0-a0_0)))))),.int .i64 (wrap64 (a0_1+(wrap64 (a2*(wrap64 (a1_1-a0_1))))))] (0,0) _ rfl (eW BK103) Try.underlying80 rfl (by kernel_rfl)) rfl ?_
 exact ⟨dA,bM HB⟩
end Go.Proofs.Ytldcckcljjlglaa.P

