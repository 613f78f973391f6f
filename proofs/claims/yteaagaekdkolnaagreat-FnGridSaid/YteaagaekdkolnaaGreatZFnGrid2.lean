/- A part of the proof of FnGrid: printed contracts and plain laws, joined by a program of this session. -/
import Derived.Test.YteaagaekdkolnaaGreatZFnGrid1
import Derived.Lib.AtoiErrMem
namespace Go.Proofs.YteaagaekdkolnaaGreat.P
open Go.RowKit Go.Proofs.YteaagaekdkolnaaGreatW.PrintWords Go.Proofs.YteaagaekdkolnaaGreatW.PrintLast Go.Proofs.YteaagaekdkolnaaGreatW.PrintMore
attribute [local go_sem] max2_int min2_int max_two min_two max_three min_three max_four min_four
set_option linter.unusedVariables false
set_option linter.unusedSimpArgs false
/-! ### impl_chi_signs: function 82 -/
def FA (T:Nat→Int) (t:pO):Int:=if T (nB t.f0 t.f1 t.f2) > 0 then 43 else 45
def chiAsc (t:pO):Prop:=0≤t.f0∧t.f0<t.f1∧t.f1<t.f2∧t.f2<7
theorem ME {P:Program} {ops:Array Oper} {o:Oper} {a:Act} {Q:Exit→Act→World→Prop} {W:World} {Kc:Act→World→Prop} {g:Nat} {e:TypeId} {cur:Array Value} (hN:o.dst=none) (hw:Region.wanted o (yielded ops a.tmps)=true) (t:TypeId) (p x:Operand) (ho:o.op=.store t p x) (u u1 u2:Value)
  (haddr:a.eval p=.pointer (some ⟨g,0,none⟩)) (hx:a.eval x=u) (hu:u.cells.toList=[u1,u2]) (ht:(P.info? t).map (·.size)=some 2) (h1:∀ q ∈ [u1,u2],q.oneCell'=true) (hh:W.heap[g]? = some (.cells cur e (0,0))) (hj:2≤cur.size)
  (h:Kc a ((W.setCell ⟨g,0,none⟩ u1).setCell ⟨g,1,none⟩ u2)):if Region.wanted o (yielded ops a.tmps)=true then Oper.wp P o a W Kc Q else Kc (a.put none undef) W:=by
 have hrun:=xC (P:=P) (o:=0) t u [u1,u2] hh hu ht (by simpa using hj) h1
 rw [if_pos hw]
 unfold Oper.wp execOp
 simp only [ho,haddr,hx,Sem.run_bind,Sem.run_pure,Result.andThen_ok,hrun]
 show Kc (a.put o.dst undef) _
 rw [hN]
 exact h
def VN:Bool×List (List Nat×List Nat):=(true,[([],[]),([],[]),([1],[1]),([],[]),([3],[3]),([],[]),([5],[5]),([0],[0]),([7],[7]),([8,2],[2,8]),([9,4],[4,9]),([10,6],[6,10]),([11],[11]),([12],[12])])
def XK:List Nat:=[0,0,2,0,8,0,32,1,129,391,927,2047,4095,8191]
theorem RO:iQ .any (iS Tryz.f82 5)=VN:=by kernel_rfl
theorem OW:dM VN.2 XK=true:=by kernel_rfl
def VO:Bool×List (List Nat×List Nat):=(true,[([],[]),([0],[0]),([1],[1]),([2],[2]),([],[]),([4],[4]),([3,5],[3,5]),([6,0,1,2,3,4,5,6],[6])])
def XL:List Nat:=[0,1,3,7,0,16,63,127]
theorem RP:iQ .any (iS Tryz.f82 9)=VO:=by kernel_rfl
theorem OX:dM VO.2 XL=true:=by kernel_rfl
theorem wD:(Tryz.prog.info? 5).map (fun i=>(i.zero,i.size,i.bytes))=some (some (.int .u8 0),1,1):=by kernel_rfl
set_option maxHeartbeats 8000000 in
set_option maxRecDepth 100000 in
theorem AR (K:Nat) (w0 w:World) (g:Nat) (n:Int) (T:Nat→Int) (r:List pO) (hr:impl_triplesOf.f K n=some r) (hlen:r.length≤35) (hasc:∀ t ∈ r,chiAsc t) (hI:cS w0 w g n T) :
  Calls Tryz.prog 82 #[.pointer (some ⟨g,0,none⟩)] w fun e' w'=>e'=.returned (.agg #[.int .i64 n,.string (strOfNums (r.map (FA T)))])∧Below w.heap.size w w':=by
 have hu75:=Tryz.underlying56
 have HB:=aE (Below.refl w.heap.size w)
 have HH:=aE (show ∀ w':World,Below w.heap.size w w'→w'.heap[g]? = some (.cells (qT n T) 96 (0,0)) from fun w' h=>aZ hI.1 h)
 have HR:=aE hr
 have HC:=aE (vH n T)
 have HL:=aE hlen
 have HA:=aE hasc
 have H1:=aE (show ∀ a b c:Int,0≤a∧a<7→0≤b∧b<7→0≤c∧c<7→(qT n T)[1+a.toNat*49+b.toNat*7+c.toNat]? = some (.int .i64 (T (nB a b c))) from fun a b c h1 h2 h3=>by
  have h:=sZ n T (nB a b c) (uH h1 h2 h3)
  rw [← MD] at h
  exact h)
 clear hr hlen hasc hI
 go_enter Tryz.func82,Tryz.ntmps82
 go_wp2_with (first|((with_reducible refine aN (N:=2) rfl ?_);refine jS ?hg (N:=2) ?hd (cs:=#[.int .i64 0,.string (⟨#[]⟩:ByteArray)]) (t:=41) ?hr ?_;(case hd=>rfl);(case hg=>rfl);(case hr=>first|(go_simp;done)|(go_simp;rfl));intro gb101 hg w4 hbox hb;have n0_:=aE (aD (by repeat (first|(with_reducible first|exact HB.out|apply mH|apply oN|apply jK)|exact HB.out)) hb);have n1_:=aE (hbox);have n3_:=aE ((by rw [hg];exact (aT (by repeat (first|(with_reducible first|exact HB.out|apply mH|apply oN|apply jK)|exact HB.out))):w.heap.size≤gb101));clear HB;have HB:=n0_;have BK101:=n1_;have GE101:=n3_;clear n0_ n1_ n3_;clear hb hbox hg;have hcz0:w4.cell? ⟨g,0,none⟩=some (.int .i64 n):=(bK (HH.out _ HB.out) 0).trans HC.out)|((with_reducible refine aJ (f:=38) rfl ?_);refine GH (some 10) rfl rfl Tryz.func38 (by kernel_rfl) rfl #[.int .i64 n] rfl (by (try simp only [List.map_toArray,List.map_cons,List.map_nil]);first|done|rfl|(simp only [List.length_drop,List.length_take];rfl)) ?_;(with_reducible refine (eI K n r _ HR.out).mono ?_);rintro e w3 ⟨v102,rfl,ho0,hb⟩;refine ⟨_,rfl,?_⟩;have n0_:=aE (Kd.R_lower ho0 (aT (by repeat (first|(with_reducible first|exact HB.out|apply mH|apply oN|apply jK)|exact HB.out))));have n1_:=aE (aD (by repeat (first|(with_reducible first|exact HB.out|apply mH|apply oN|apply jK)|exact HB.out)) hb);have n2_:=aE (aZ (g:=gb101) (o:=.cells #[.int .i64 0,.string (⟨#[]⟩:ByteArray)] 41 (0,0)) (by (with_reducible repeat (first|refine aM ?_ _|refine aI ?_|refine aK ?_ _));exact BK101.out) hb);clear HB BK101 hcz0;have HO_8:=n0_;have HB:=n1_;have BK101:=n2_;clear n0_ n1_ n2_ hb ho0;obtain ⟨Ao4,co4,eo4⟩:=Kd.R_slice HO_8.out;subst eo4))
 go_loopg [3,12] r.length (fun kq v3 v12 w'=>∃ (x:Int) (ix:Nat) (tx:List Int),v12=.int .i64 x∧Aside0 (x=(ix:Int))∧Aside0 (kq+ix=r.length)∧Aside0 (tx=(r.take ix).map (FA T))∧Aside0 (w'.heap[gb101]? = some (.cells #[.int .i64 0,.string (⟨#[]⟩:ByteArray)] 41 (0,0)))∧Aside0 (Kd.R (Kd.int .u8) 5 w' w.heap.size (fun _=>True) v3 tx)∧Aside0 (Kd.R FQ 56 w' w.heap.size (fun _=>True) (.slice Ao4 r.length co4) r)∧Aside0 (Below w.heap.size w w'))
 case atStart=>exact ⟨0,0,[],rfl,⟨rfl⟩,⟨rfl⟩,⟨rfl⟩,⟨BK101.out⟩,⟨Kd.R_nil _ _ _ _ _⟩,HO_8,HB⟩
 case round =>
  clear BK101 HO_8 HB
  obtain ⟨x,ix,tx,rfl,HX,HK1,HT,BK101,HO_3,HO_8,HB⟩:=hrel
  by_cases c5:x<(r.length:Int)
  ·have c5b0:decide (x<(r.length:Int))=true:=decide_eq_true c5
   have hx:=HX.out
   have p104:0≤x:=by omega
   have q104:=c5
   have hixn:ix<r.length:=by omega
   have hrd:aG r x=r[ix]:=by rw [hx];simp [aG,hixn]
   have hmem:aG r x ∈ r:=by rw [hrd];exact List.getElem_mem hixn
   have HASC:=aE (HA.out _ hmem)
   have HSG:=aE (show (r.take (ix+1)).map (FA T)=(r.take ix).map (FA T)++[FA T (aG r x)] by rw [List.take_add_one,List.getElem?_eq_getElem hixn,hrd,List.map_append];rfl)
   have HIX:=aE hixn
   have HW:wrap64 (x+1)=((ix+1:Nat):Int):=by have:=HL.out;unfold wrap64;omega
   have HW:=aE HW
   clear c5 hrd hmem hixn hx
   obtain ⟨ad104,e104,hx104_0,hx104_1,hx104_2⟩:=rR (Kd.R_reads' HO_8.out).2.2 x p104 q104
   cases e104
   replace p104:=eq_true p104
   replace q104:=eq_true q104
   go_wp2_with ((with_reducible refine aN (N:=5) rfl ?_);refine jS ?hg (N:=5) ?hd (cs:=#[.int .i64 0,.int .i64 0,.int .i64 0]) (t:=56) ?hr ?_;(case hd=>rfl);(case hg=>rfl);(case hr=>first|(go_simp;done)|(go_simp;rfl));intro gb105 hg w8 hbox hb;have n0_:=aE (Kd.R_below (Kd.R_elderB (by (with_reducible repeat (first|apply kD|apply kE|apply gU));exact HO_3.out) gb105 (Nat.le_of_eq hg.symm)) hb);have n1_:=aE (Kd.R_below (Kd.R_elderB (by (with_reducible repeat (first|apply kD|apply kE|apply gU));exact HO_8.out) gb105 (Nat.le_of_eq hg.symm)) hb);have n2_:=aE (aD (by repeat (first|(with_reducible first|exact HB.out|apply mH|apply oN|apply jK)|exact HB.out)) hb);have n3_:=aE (hbox);have n4_:=aE (show gb105≠gb101 by have:=gB BK101.out;rw [hg];show _≠gb101;exact Nat.ne_of_gt this);have n5_:=aE ((by rw [hg];exact (aT (by repeat (first|(with_reducible first|exact HB.out|apply mH|apply oN|apply jK)|exact HB.out))):w.heap.size≤gb105));have n6_:=aE (aZ (g:=gb101) (o:=.cells #[.int .i64 0,.string (⟨#[]⟩:ByteArray)] 41 (0,0)) (by (with_reducible repeat (first|refine aM ?_ _|refine aI ?_|refine aK ?_ _));exact BK101.out) hb);clear HO_3;clear HO_8;clear HB;clear BK101;have HO_3:=n0_;have HO_8:=n1_;have HB:=n2_;have BK105:=n3_;have GW105:=n4_;have GE105:=n5_;have BK101:=n6_;clear n0_ n1_ n2_ n3_ n4_ n5_ n6_;clear hb hbox hg;have hcz9_0:w8.cell? ⟨gb105,0,none⟩=some (.int .i64 0):=(bK BK105.out 0).trans rfl;have hcz9_1:w8.cell? ⟨gb105,1,none⟩=some (.int .i64 0):=(bK BK105.out 1).trans rfl;have hcz9_2:w8.cell? ⟨gb105,2,none⟩=some (.int .i64 0):=(bK BK105.out 2).trans rfl;have hfz9_0:=aA BK105.out 0;have hfz9_1:=aA BK105.out 1;have hfz9_2:=aA BK105.out 2)
   have hN:=Ne.symm GW105.out
   have T75:=aE (show (((w8.setCell ⟨gb105,0,none⟩ (.int .i64 (aG r x).f0)).setCell ⟨gb105,1,none⟩ (.int .i64 (aG r x).f1)).setCell ⟨gb105,2,none⟩ (.int .i64 (aG r x).f2)).heap[gb105]? = some (.cells #[.int .i64 (aG r x).f0,.int .i64 (aG r x).f1,.int .i64 (aG r x).f2] 56 (0,0)) by
    refine bQ (cs:=#[.int .i64 (aG r x).f0,.int .i64 (aG r x).f1,.int .i64 0]) ?_ 2 _ rfl
    refine bQ (cs:=#[.int .i64 (aG r x).f0,.int .i64 0,.int .i64 0]) ?_ 1 _ rfl
    refine bQ (cs:=#[.int .i64 0,.int .i64 0,.int .i64 0]) ?_ 0 _ rfl
    exact BK105.out)
   have m1_:=aE ((Below.heap_setCell (w8.setCell ⟨gb105,0,none⟩ (.int .i64 (aG r x).f0) |>.setCell ⟨gb105,1,none⟩ (.int .i64 (aG r x).f1)) ⟨gb105,2,none⟩ (.int .i64 (aG r x).f2) gb101 hN).trans ((Below.heap_setCell _ _ _ _ hN).trans ((Below.heap_setCell _ _ _ _ hN).trans BK101.out)))
   have m2_:=aE (cE (v:=(.int .i64 (aG r x).f2)) (j:=2) (cE (v:=(.int .i64 (aG r x).f1)) (j:=1) (cE (v:=(.int .i64 (aG r x).f0)) (j:=0) HB.out GE105.out) GE105.out) GE105.out)
   have m3_:=aE (Kd.R_far (p:=⟨gb105,2,none⟩) (Kd.R_far (p:=⟨gb105,1,none⟩) (Kd.R_far (p:=⟨gb105,0,none⟩) HO_3.out (fun _ hk=>hk.2) (.int .i64 ((aG r x).f0))) (fun _ hk=>hk.2) (.int .i64 ((aG r x).f1))) (fun _ hk=>hk.2) (.int .i64 ((aG r x).f2)))
   have m4_:=aE (Kd.R_far (p:=⟨gb105,2,none⟩) (Kd.R_far (p:=⟨gb105,1,none⟩) (Kd.R_far (p:=⟨gb105,0,none⟩) HO_8.out (fun _ hk=>hk.2) (.int .i64 ((aG r x).f0))) (fun _ hk=>hk.2) (.int .i64 ((aG r x).f1))) (fun _ hk=>hk.2) (.int .i64 ((aG r x).f2)))
   clear BK101 HB HO_3 HO_8 BK105 hcz9_0 hcz9_1 hcz9_2 hfz9_0 hfz9_1 hfz9_2 hx104_0 hx104_1 hx104_2 hN
   generalize ((w8.setCell ⟨gb105,0,none⟩ (.int .i64 (aG r x).f0)).setCell ⟨gb105,1,none⟩ (.int .i64 (aG r x).f1)).setCell ⟨gb105,2,none⟩ (.int .i64 (aG r x).f2)=wA at T75 m1_ m2_ m3_ m4_ ⊢
   have BK101:=m1_
   have HB:=m2_
   have HO_3:=aE (gU (Kd.R_mono (ok':=fun _=>True) m3_.out (fun _ _=>trivial)))
   have HO_8:=aE (gU (Kd.R_mono (ok':=fun _=>True) m4_.out (fun _ _=>trivial)))
   clear m1_ m2_ m3_ m4_
   have hA:=HASC.out
   unfold chiAsc at hA
   have I58:=yY g (aG r x).f0 (by omega)
   have I57:=yZ g (aG r x).f1 (by omega)
   have I56:=yH g (aG r x).f2 (by omega)
   have hone:=H1.out (aG r x).f0 (aG r x).f1 (aG r x).f2 (by omega) (by omega) (by omega)
   obtain ⟨v,hv⟩:∃ v,T (nB (aG r x).f0 (aG r x).f1 (aG r x).f2)=v:=⟨_,rfl⟩
   rw [hv] at hone
   have HONE:=aE hone
   have HV:=aE (show FA T (aG r x)=if v > 0 then 43 else 45 by unfold FA;rw [hv])
   clear hA hone hv
   refine dA (n:=14) (S:=fun w'=>w'.cell? ⟨gb105,0,none⟩=some (.int .i64 (aG r x).f0)∧w'.cell? ⟨gb105,1,none⟩=some (.int .i64 (aG r x).f1)∧w'.cell? ⟨gb105,2,none⟩=some (.int .i64 (aG r x).f2)∧w'.cell? ⟨g,1+(aG r x).f0.toNat*49+(aG r x).f1.toNat*7+(aG r x).f2.toNat,none⟩=some (.int .i64 v)) (ds:=[]) (bm 14 0) (by kernel_rfl) rfl rfl ⟨(bK (w:=wA) T75.out 0).trans rfl,(bK (w:=wA) T75.out 1).trans rfl,(bK (w:=wA) T75.out 2).trans rfl,(bK (w:=wA) (HH.out wA HB.out) _).trans HONE.out⟩ (fun hHeld=>?_);refine bO RO OW (fun HT_ HW_=>?_)
   have HB:=aE (jK HB.out)
   have BK101:=aE (show wA.drew.heap[gb101]? = _ from BK101.out)
   clear T75
   generalize wA.drew=wB at HB BK101 HO_3 HO_8 hHeld ⊢
   refine bU ((0,0,16,1)::(0,1,17,3)::(0,3,19,11)::(0,5,21,43)::(0,7,23,171)::(0,8,24,427)::(2,2,18,431)::(2,4,20,447)::(2,6,22,511)::(0,9,25,1023)::(0,10,26,2047)::(0,11,27,4095)::(2,12,28,8191)::(0,13,29,16383)::[]) ?_
   iterate 14 (first|(refine mD ?_ ?_ rfl rfl (lN HT_.out (by kernel_rfl)) (fun _ _ _ h=>h) (Or.inl ⟨by rfl,?_⟩) ?_ ?_;rotate_left 2;(· intro w';go_simp;with_reducible rfl);(· simp only [Act.put,List.setIfInBounds_toArray,List.set_cons_zero,List.set_cons_succ,cC,dW];rfl))|(refine AP ?_ ?_ rfl rfl (uY HT_.out HW_.out (by kernel_rfl)) (fun _ _ _ h=>h) (Or.inl ⟨by rfl,?_⟩) hHeld ?_ ?_;rotate_left 2;(· rintro w' ⟨s0,s1,s2,s3⟩;go_simp;with_reducible rfl);(· simp only [Act.put,List.setIfInBounds_toArray,List.set_cons_zero,List.set_cons_succ,cC,dW];rfl)))
   refine aU ?_
   refine eN (cK HT_.out (by kernel_rfl)) ?_
   clear HT_ HW_ hHeld I58 I57 I56
   by_cases cv:v > 0
   ·have HQ:=aE cv
    have cvb:decide (0<v)=true:=decide_eq_true cv
    rw [cvb]
    clear cv cvb
    go_wp2_with ((with_reducible refine cT (b:=.append) (xs:=#[.tmp 30,.tmp 31]) rfl ?_);at_builtin;refine Kd.R_append (Kd.int .u8) (w0:=w) w.heap.size rfl (.tmp 30) (.tmp 31) 22 5 (.int .u8 0) 1 rfl Tryz.underlying22 wD rfl (by decide) (by omega) u3 tx 43 [.int .u8 43] (fun _=>True) (fun _=>False) rfl rfl ?aP (fun _ hk=>hk.elim) ?aF ?aO ?aB ?aS ?aL ?_;(case aP=>exact rfl);(case aB=>exact (by repeat (first|(with_reducible first|exact HB.out|apply mH|apply oN|apply jK)|exact HB.out)));(case aF=>exact (fun _ _=>trivial));(case aO=>exact (by (with_reducible repeat (first|apply kD|apply kE|apply gU));exact HO_3.out));(case aS=>exact (aT (by repeat (first|(with_reducible first|exact HB.out|apply mH|apply oN|apply jK)|exact HB.out))));(case aL=>have h1:=HL.out;have h2:=HIX.out;rw [HT.out,List.length_map,List.length_take];omega);intro v102 w7 ho hb hg hat;have n0_:=aE (Kd.R_over' (by (with_reducible repeat (first|apply kD|apply kE|apply gU));exact HO_8.out) (Kd.R_typed (by (with_reducible repeat (first|apply kD|apply kE|apply gU));exact HO_3.out)) (by decide) hg);have n1_:=aE (kL (g:=gb101) (o:=.cells #[.int .i64 0,.string (⟨#[]⟩:ByteArray)] 41 (0,0)) (by (with_reducible repeat (first|refine aM ?_ _|refine aI ?_|refine aK ?_ _));exact BK101.out) hg (Kd.R_ne HO_3.out BK101.out (by decide)));have n2_:=aE (hb);have n3_:=aE (ho);clear HO_8;clear BK101;clear HB;clear HO_3;have HO_8:=n0_;have BK101:=n1_;have HB:=n2_;have HO_3:=n3_;clear n0_ n1_ n2_ n3_;clear ho hb hg hat)
    go_roundg (gk-1)
    case measure=>have:=HK1.out;have:=HIX.out;omega
    case rel=>exact ⟨wrap64 (x+1),ix+1,tx++[43],(by first|rfl|(simp;done)|(rw [HW.out];first|rfl|(simp;done))),⟨HW.out⟩,⟨by have:=HK1.out;have:=HIX.out;omega⟩,⟨by rw [HSG.out,HT.out,HV.out,if_pos (by have:=HQ.out;omega)]⟩,⟨BK101.out⟩,⟨HO_3.out⟩,⟨HO_8.out⟩,⟨HB.out⟩⟩
   ·have HQ:=aE cv
    have cvb:decide (0<v)=false:=decide_eq_false cv
    rw [cvb]
    clear cv cvb
    go_wp2_with ((with_reducible refine cT (b:=.append) (xs:=#[.tmp 33,.tmp 34]) rfl ?_);at_builtin;refine Kd.R_append (Kd.int .u8) (w0:=w) w.heap.size rfl (.tmp 33) (.tmp 34) 22 5 (.int .u8 0) 1 rfl Tryz.underlying22 wD rfl (by decide) (by omega) u3 tx 45 [.int .u8 45] (fun _=>True) (fun _=>False) rfl rfl ?aP (fun _ hk=>hk.elim) ?aF ?aO ?aB ?aS ?aL ?_;(case aP=>exact rfl);(case aB=>exact (by repeat (first|(with_reducible first|exact HB.out|apply mH|apply oN|apply jK)|exact HB.out)));(case aF=>exact (fun _ _=>trivial));(case aO=>exact (by (with_reducible repeat (first|apply kD|apply kE|apply gU));exact HO_3.out));(case aS=>exact (aT (by repeat (first|(with_reducible first|exact HB.out|apply mH|apply oN|apply jK)|exact HB.out))));(case aL=>have h1:=HL.out;have h2:=HIX.out;rw [HT.out,List.length_map,List.length_take];omega);intro v102 w7 ho hb hg hat;have n0_:=aE (Kd.R_over' (by (with_reducible repeat (first|apply kD|apply kE|apply gU));exact HO_8.out) (Kd.R_typed (by (with_reducible repeat (first|apply kD|apply kE|apply gU));exact HO_3.out)) (by decide) hg);have n1_:=aE (kL (g:=gb101) (o:=.cells #[.int .i64 0,.string (⟨#[]⟩:ByteArray)] 41 (0,0)) (by (with_reducible repeat (first|refine aM ?_ _|refine aI ?_|refine aK ?_ _));exact BK101.out) hg (Kd.R_ne HO_3.out BK101.out (by decide)));have n2_:=aE (hb);have n3_:=aE (ho);clear HO_8;clear BK101;clear HB;clear HO_3;have HO_8:=n0_;have BK101:=n1_;have HB:=n2_;have HO_3:=n3_;clear n0_ n1_ n2_ n3_;clear ho hb hg hat)
    go_roundg (gk-1)
    case measure=>have:=HK1.out;have:=HIX.out;omega
    case rel=>exact ⟨wrap64 (x+1),ix+1,tx++[45],(by first|rfl|(simp;done)|(rw [HW.out];first|rfl|(simp;done))),⟨HW.out⟩,⟨by have:=HK1.out;have:=HIX.out;omega⟩,⟨by rw [HSG.out,HT.out,HV.out,if_neg (by have:=HQ.out;omega)]⟩,⟨BK101.out⟩,⟨HO_3.out⟩,⟨HO_8.out⟩,⟨HB.out⟩⟩
  ·have c5b0:decide (x<(r.length:Int))=false:=decide_eq_false c5
   have HE:=aE (show ix=r.length by have:=HK1.out;have:=HX.out;omega)
   clear c5
   go_wp2_with fail
   have hcv:∀ w':World,Kd.R (Kd.int .u8) 5 w' w.heap.size (fun _=>True) u3 tx→(convert 22 9 u3).run Tryz.prog w'=.ok (.string (strOfNums tx)) w':=fun w' h=>DJ (P:=Tryz.prog) Tryz.underlying22 Tryz.underlying5 Tryz.underlying9 (Kd.own_of_R h)
   refine dA (n:=8) (S:=fun w'=>w'.cell? ⟨g,0,none⟩=some (.int .i64 n)∧(convert 22 9 u3).run Tryz.prog w'=.ok (.string (strOfNums tx)) w') (ds:=[]) (bm 8 0) (by kernel_rfl) rfl rfl ⟨(bK (HH.out _ HB.out) 0).trans HC.out,hcv _ (gU HO_3.out)⟩ (fun hHeld=>?_);refine bO RP OX (fun HT_ HW_=>?_)
   have HB:=aE (jK HB.out)
   have BK101:=aE (show wr.drew.heap[gb101]? = _ from BK101.out)
   have HO_3:=aE (gU HO_3.out)
   have HCV:=aE hcv
   clear hcv HO_8
   generalize wr.drew=wB at HB BK101 HO_3 hHeld ⊢
   refine bU ((0,0,37,1)::(0,1,38,3)::(0,2,39,7)::(0,4,41,23)::(2,3,40,31)::(2,5,42,63)::(0,6,43,127)::[]) ?_
   iterate 7 (first|(refine mD ?_ ?_ rfl rfl (lN HT_.out (by kernel_rfl)) (fun _ _ _ h=>h) (Or.inl ⟨by rfl,?_⟩) ?_ ?_;rotate_left 2;(· intro w';go_simp;with_reducible rfl);(· simp only [Act.put,List.setIfInBounds_toArray,List.set_cons_zero,List.set_cons_succ,cC,dW];rfl))|(refine AP ?_ ?_ rfl rfl (uY HT_.out HW_.out (by kernel_rfl)) (fun _ _ _ h=>h) (Or.inl ⟨by rfl,?_⟩) hHeld ?_ ?_;rotate_left 2;(· rintro w' ⟨s0,s1⟩;go_simp;with_reducible rfl);(· simp only [Act.put,List.setIfInBounds_toArray,List.set_cons_zero,List.set_cons_succ,cC,dW];rfl)))
   refine aU ?_
   refine dQ (i:=7) (N:=none) (bm 8 255) rfl rfl (bJ HT_.out (by kernel_rfl)) (by decide) (fun K hK=>?_)
   refine ME (g:=gb101) rfl (by rfl) 41 (.tmp 2) (.tmp 43) rfl (.agg #[.int .i64 n,.string (strOfNums tx)]) (.int .i64 n) (.string (strOfNums tx)) rfl rfl rfl (by kernel_rfl) (by intro q hq;simp at hq;rcases hq with rfl|rfl <;> rfl) BK101.out (by decide) ?_
   refine hK.out _ _ ⟨(bK (HH.out _ (cE (cE HB.out GE101.out) GE101.out)) 0).trans HC.out,HCV.out _ (Kd.R_mono (Kd.R_far (p:=⟨gb101,1,none⟩) (Kd.R_far (p:=⟨gb101,0,none⟩) (Kd.R_types HO_3.out BK101.out (by decide)) (fun _ hk=>hk.2) _) (fun _ hk=>hk.2) _) (fun _ _=>trivial))⟩ (fun hHeld=>?_)
   clear hK K
   refine eN (cK HT_.out (by kernel_rfl)) ?_
   clear HT_ HW_ hHeld
   go_wp2
   refine bodyPost_ret (results_cell_row rfl _ _ gb101 41 #[.int .i64 n,.string (strOfNums tx)] (0,0) _ rfl (by refine bQ (cs:=#[.int .i64 n,.string (⟨#[]⟩:ByteArray)]) ?_ 1 _ rfl;refine bQ (cs:=#[.int .i64 0,.string (⟨#[]⟩:ByteArray)]) ?_ 0 _ rfl;exact BK101.out) Tryz.underlying41 rfl (by kernel_rfl)) rfl ?_
   exact ⟨by rw [HT.out,HE.out,List.take_length],cE (cE HB.out GE101.out) GE101.out⟩
def eW (n:Int):List pO:=(impl_triplesOf.f 300 n).getD []
theorem JU (n:Int) (h:3≤n∧n≤7):impl_triplesOf.f 300 n=some (eW n)∧(eW n).length≤35∧∀ t ∈ eW n,chiAsc t:=by
 obtain ⟨h1,h2⟩:=h
 have hn:n=3∨n=4∨n=5∨n=6∨n=7:=by omega
 have hd:∀ l:List pO,l.all (fun t=>decide (0≤t.f0)&&decide (t.f0<t.f1)&&decide (t.f1<t.f2)&&decide (t.f2<7))=true→∀ t ∈ l,chiAsc t:=by
  intro l hl t ht
  have:=List.all_eq_true.1 hl t ht
  simp only [Bool.and_eq_true,decide_eq_true_eq] at this
  exact ⟨this.1.1.1,this.1.1.2,this.1.2,this.2⟩
 rcases hn with rfl|rfl|rfl|rfl|rfl
 ·exact ⟨by kernel_rfl,of_decide_eq_true (by kernel_rfl),hd _ (by kernel_rfl)⟩
 ·exact ⟨by kernel_rfl,of_decide_eq_true (by kernel_rfl),hd _ (by kernel_rfl)⟩
 ·exact ⟨by kernel_rfl,of_decide_eq_true (by kernel_rfl),hd _ (by kernel_rfl)⟩
 ·exact ⟨by kernel_rfl,of_decide_eq_true (by kernel_rfl),hd _ (by kernel_rfl)⟩
 ·exact ⟨by kernel_rfl,of_decide_eq_true (by kernel_rfl),hd _ (by kernel_rfl)⟩
/-! ### impl_tableOf: function 64 -/
def rA (s:ByteArray) (T:Nat→Int) (p:pO×Nat):Nat→Int:=IE T p.1.f0 p.1.f1 p.1.f2 (if bt s (p.2:Int)=45 then -1 else 1)
def JV (s:ByteArray) (L:List pO):Nat→Int:=L.zipIdx.foldl (rA s) fun _=>0
def impl_tableOf.f (a0_0:Int) (a0_1:ByteArray):Option (Int×(Nat→Int)):=if (3≤a0_0∧a0_0≤7)∧(eW a0_0).length≤a0_1.size then some (a0_0,JV a0_1 (eW a0_0)) else none
theorem DX:Tryz.zeroCells96=qT 0 (fun _=>0):=by kernel_rfl
theorem RQ (m n:Int) (T:Nat→Int):(qT m T).setIfInBounds 0 (.int .i64 n)=qT n T:=by
 apply Array.ext_getElem?
 intro q
 rw [Array.getElem?_setIfInBounds]
 by_cases h0:0=q
 ·subst h0
  rw [if_pos rfl,if_pos (by rw [nL];omega),vH]
 ·rw [if_neg h0]
  obtain ⟨p,rfl⟩:∃ p,q=1+p:=⟨q-1,by omega⟩
  by_cases hm:p<343
  ·rw [sZ _ _ _ hm,sZ _ _ _ hm]
  ·rw [Array.getElem?_eq_none (by rw [nL];omega),Array.getElem?_eq_none (by rw [nL];omega)]
theorem FV (n:Int):Tryz.zeroCells96.setIfInBounds 0 (.int .i64 n)=qT n (fun _=>0):=by rw [DX,RQ]
theorem RR {α:Type} (L:List α) (ix:Nat) (h:ix<L.length):(L.take (ix+1)).zipIdx=(L.take ix).zipIdx++[(L[ix],ix)]:=by
 rw [List.take_add_one,List.getElem?_eq_getElem h,List.zipIdx_append]
 simp [Nat.min_eq_left (Nat.le_of_lt h)]
set_option maxHeartbeats 8000000 in
set_option maxRecDepth 100000 in
theorem xS (a0_0:Int) (a0_1:ByteArray) (r1:Int) (r2:Nat→Int) (w0 w:World) (hB:Below w0.heap.size w0 w) (h:impl_tableOf.f a0_0 a0_1=some (r1,r2)) :
  Calls Tryz.prog 64 #[.agg #[.int .i64 a0_0,.string a0_1]] w fun e w'=>∃ g,e=.returned (.pointer (some ⟨g,0,none⟩))∧cS w0 w' g r1 r2∧Below w0.heap.size w0 w'∧Below w.heap.size w w':=by
 unfold impl_tableOf.f at h
 by_cases hc:(3≤a0_0∧a0_0≤7)∧(eW a0_0).length≤a0_1.size
 case neg=>rw [if_neg hc] at h;cases h
 rw [if_pos hc] at h
 simp only [Option.some.injEq,Prod.mk.injEq] at h
 obtain ⟨rfl,rfl⟩:=h
 suffices hs:Calls Tryz.prog 64 #[.agg #[.int .i64 a0_0,.string a0_1]] w fun e w'=>∃ g,e=.returned (.pointer (some ⟨g,0,none⟩))∧cS w w' g a0_0 (JV a0_1 (eW a0_0))∧Below w.heap.size w w' by
  refine hs.mono ?_
  rintro e w' ⟨g,he,hi,hb⟩
  exact ⟨g,he,⟨hi.1,Nat.le_trans hB.size hi.2⟩,aD hB hb,hb⟩
 obtain ⟨h37,hsz⟩:=hc
 obtain ⟨hr,hlen,hasc⟩:=JU a0_0 h37
 have hu75:=Tryz.underlying56
 have hus:=Tryz.underlying41
 have HR:=aE hr
 have HSZ:=aE hsz
 have HL:=aE hlen
 have HA:=aE hasc
 obtain ⟨gS,hgS⟩:∃ gS,w.heap.size=gS:=⟨_,rfl⟩
 have HGS:=aE hgS
 clear h37 hB hr hsz hlen hasc
 go_enter Tryz.func64,Tryz.ntmps64
 go_wp2_with fail
 have hB0:=mH (mH (Below.refl w.heap.size w) (.cells #[.int .i64 a0_0,.string a0_1] 41)) (.cells (Tryz.zeroCells96.setIfInBounds 0 (.int .i64 a0_0)) 96)
 have hbs:((w.alloc (.cells #[.int .i64 a0_0,.string a0_1] 41)).alloc (.cells (Tryz.zeroCells96.setIfInBounds 0 (.int .i64 a0_0)) 96)).heap[gS]? = some (.cells #[.int .i64 a0_0,.string a0_1] 41 (0,0)):=by
  rw [← HGS.out]
  exact aK (yN w _) _
 have hsz1:(w.alloc (.cells #[.int .i64 a0_0,.string a0_1] 41)).heap.size=gS+1:=by rw [← HGS.out];show (w.heap.push _).size=_;rw [Array.size_push]
 have hch:((w.alloc (.cells #[.int .i64 a0_0,.string a0_1] 41)).alloc (.cells (Tryz.zeroCells96.setIfInBounds 0 (.int .i64 a0_0)) 96)).heap[gS+1]? = some (.cells (qT a0_0 (fun _=>0)) 96 (0,0)):=by
  rw [← hsz1,← FV]
  exact yN (w.alloc (.cells #[.int .i64 a0_0,.string a0_1] 41)) _
 obtain ⟨g,hg⟩:∃ g,gS+1=g:=⟨_,rfl⟩
 rw [hg] at hch ⊢
 have HGG:=aE (show gS≠g by omega)
 have HB:=aE hB0
 have BS:=aE hbs
 have HI0:=aE (show cS w _ g a0_0 (fun _=>0) from ⟨hch,by have:=HGS.out;omega⟩)
 generalize (w.alloc (.cells #[.int .i64 a0_0,.string a0_1] 41)).alloc (.cells (Tryz.zeroCells96.setIfInBounds 0 (.int .i64 a0_0)) 96)=wC at HB BS HI0 ⊢
 clear hB0 hbs hsz1 hch hg
 (with_reducible refine (eI 300 a0_0 (eW a0_0) _ HR.out).mono ?_)
 rintro e w3 ⟨v102,rfl,ho0,hb⟩
 have HO_8:=aE (Kd.R_lower ho0 (aT HB.out))
 have n1_:=aE (aD HB.out hb)
 have n2_:=aE (aZ BS.out hb)
 have n3_:=aE (HI0.out.below hb)
 clear HB BS HI0
 have HB:=n1_
 have BS:=n2_
 have HI0:=n3_
 clear n1_ n2_ n3_ hb ho0
 obtain ⟨Ao4,co4,eo4⟩:=Kd.R_slice HO_8.out
 subst eo4
 obtain ⟨r,hr⟩:∃ r,eW a0_0=r:=⟨_,rfl⟩
 have HRR:=aE hr
 rw [hr] at HO_8 HL HA HSZ ⊢
 clear hr HR
 go_wp2
 go_loopg [15] r.length (fun kq v15 w'=>∃ (x:Int) (ix:Nat) (T:Nat→Int),v15=.int .i64 x∧Aside0 (x=(ix:Int))∧Aside0 (kq+ix=r.length)∧Aside0 (T=((r.take ix).zipIdx).foldl (rA a0_1) (fun _=>0))∧Aside0 (cS w w' g a0_0 T)∧Aside0 (w'.heap[gS]? = some (.cells #[.int .i64 a0_0,.string a0_1] 41 (0,0)))∧Aside0 (Kd.R FQ 56 w' w.heap.size (fun _=>True) (.slice Ao4 r.length co4) r)∧Aside0 (Below w.heap.size w w'))
 case atStart=>exact ⟨0,0,_,rfl,⟨rfl⟩,⟨rfl⟩,⟨rfl⟩,HI0,BS,HO_8,HB⟩
 case round =>
  clear HI0 BS HO_8 HB
  obtain ⟨x,ix,T,rfl,HX,HK1,HT,HI0,BS,HO_8,HB⟩:=hrel
  by_cases c5:x<(r.length:Int)
  ·have c5b0:decide (x<(r.length:Int))=true:=decide_eq_true c5
   have hx:=HX.out
   have p104:0≤x:=by omega
   have q104:=c5
   have hixn:ix<r.length:=by omega
   have hrd:aG r x=r[ix]:=by rw [hx];simp [aG,hixn]
   have HASC:=aE (show chiAsc (aG r x) by rw [hrd];exact HA.out _ (List.getElem_mem hixn))
   have HST:=aE (show ((r.take (ix+1)).zipIdx).foldl (rA a0_1) (fun _=>0)=rA a0_1 (((r.take ix).zipIdx).foldl (rA a0_1) (fun _=>0)) (aG r x,ix) by rw [RR _ _ hixn,List.foldl_append,hrd];rfl)
   have HIX:=aE hixn
   have HW:wrap64 (x+1)=((ix+1:Nat):Int):=by have:=HL.out;unfold wrap64;omega
   have HW:=aE HW
   have qz0:(x<(a0_1.size:Int))=True:=eq_true (by have:=HSZ.out;omega)
   have hxz:=lK a0_1 x
   clear c5 hrd hixn hx
   obtain ⟨ad104,e104,hx104_0,hx104_1,hx104_2⟩:=rR (Kd.R_reads' HO_8.out).2.2 x p104 q104
   cases e104
   replace p104:=eq_true p104
   replace q104:=eq_true q104
   by_cases cv:bt a0_1 x=45
   ·have HSG:=aE (show (if bt a0_1 x=45 then (-1:Int) else 1)=(-1) by rw [if_pos cv])
    have cvb:((bt a0_1 x)==45)=true:=beq_iff_eq.2 cv
    clear cv
    go_wp2_with (first|((with_reducible refine aN (N:=5) rfl ?_);refine jS ?hg (N:=5) ?hd (cs:=#[.int .i64 0,.int .i64 0,.int .i64 0]) (t:=56) ?hr ?_;(case hd=>rfl);(case hg=>rfl);(case hr=>first|(go_simp;done)|(go_simp;rfl));intro gb105 hg w8 hbox hb;have n1_:=aE (Kd.R_below (Kd.R_elderB (by (with_reducible repeat (first|apply kD|apply kE|apply gU));exact HO_8.out) gb105 (Nat.le_of_eq hg.symm)) hb);have n2_:=aE (aD (by repeat (first|(with_reducible first|exact HB.out|apply mH|apply oN|apply jK)|exact HB.out)) hb);have n3_:=aE (hbox);have n4_:=aE (show gb105≠g by have:=iC HI0.out;rw [hg];show _≠g;exact Nat.ne_of_gt this);have n5_:=aE ((by rw [hg];exact (aT (by repeat (first|(with_reducible first|exact HB.out|apply mH|apply oN|apply jK)|exact HB.out))):w.heap.size≤gb105));have n6_:=aE (HI0.out.below hb);have n7_:=aE (aZ BS.out hb);have n8_:=aE (show gb105≠gS by have:=gB BS.out;rw [hg];show _≠gS;exact Nat.ne_of_gt this);clear HO_8;clear HB;clear HI0 BS;have HO_8:=n1_;have HB:=n2_;have BK105:=n3_;have GW105:=n4_;have GE105:=n5_;have HI0:=n6_;have BS:=n7_;have GS105:=n8_;clear n1_ n2_ n3_ n4_ n5_ n6_ n7_ n8_;clear hb hbox hg;have hcz9_0:w8.cell? ⟨gb105,0,none⟩=some (.int .i64 0):=(bK BK105.out 0).trans rfl;have hcz9_1:w8.cell? ⟨gb105,1,none⟩=some (.int .i64 0):=(bK BK105.out 1).trans rfl;have hcz9_2:w8.cell? ⟨gb105,2,none⟩=some (.int .i64 0):=(bK BK105.out 2).trans rfl;have hfz9_0:=aA BK105.out 0;have hfz9_1:=aA BK105.out 1;have hfz9_2:=aA BK105.out 2;have hczS:(((w8.setCell ⟨gb105,0,none⟩ (.int .i64 (aG r x).f0)).setCell ⟨gb105,1,none⟩ (.int .i64 (aG r x).f1)).setCell ⟨gb105,2,none⟩ (.int .i64 (aG r x).f2)).cell? ⟨gS,1,none⟩=some (.string a0_1):=(bK (g:=gS) (t:=41) (cs:=#[.int .i64 a0_0,.string a0_1]) ((Below.heap_setCell _ _ _ _ (Ne.symm GS105.out)).trans ((Below.heap_setCell _ _ _ _ (Ne.symm GS105.out)).trans ((Below.heap_setCell _ _ _ _ (Ne.symm GS105.out)).trans BS.out))) 1).trans rfl)|(go_at_call 81;have hA:=HASC.out;unfold chiAsc at hA;have hN:=GW105.out;(with_reducible refine (qA w _ g a0_0 T (aG r x).f0 (aG r x).f1 (aG r x).f2 (-1) ?h1 ?h2 (by omega) (by omega) (by omega)).mono ?_);(case h1=>exact lB (lB (lB HI0.out (Ne.symm hN) _) (Ne.symm hN) _) (Ne.symm hN) _);(case h2=>exact (by repeat (first|(with_reducible first|exact HB.out|apply mH|apply oN|apply jK|refine cE ?_ GE105.out)|exact HB.out)));rintro e' w10 ⟨rfl,hh1,hb1,hk1⟩))
    have HO9:=aE (Kd.R_keep (Kd.R_far (p:=⟨gb105,2,none⟩) (Kd.R_far (p:=⟨gb105,1,none⟩) (Kd.R_far (p:=⟨gb105,0,none⟩) (Kd.R_types HO_8.out HI0.out.1 (by decide)) (fun _ hk=>hk.1.2) (.int .i64 ((aG r x).f0))) (fun _ hk=>hk.1.2) (.int .i64 ((aG r x).f1))) (fun _ hk=>hk.1.2) (.int .i64 ((aG r x).f2))) hk1 (fun _ hk=>hk.2))
    have HO9:=aE (Kd.R_mono (ok':=fun _=>True) HO9.out (fun _ _=>trivial))
    have HBS:=aE (show w10.heap[gS]? = some (.cells #[.int .i64 a0_0,.string a0_1] 41 (0,0)) from (hk1.2 gS (by have:=gB BS.out;simpa [World.setCell] using this) HGG.out (by simp)).trans ((Below.heap_setCell _ _ _ _ (Ne.symm GS105.out)).trans ((Below.heap_setCell _ _ _ _ (Ne.symm GS105.out)).trans ((Below.heap_setCell _ _ _ _ (Ne.symm GS105.out)).trans BS.out))))
    go_roundg (gk-1)
    case measure=>have:=HK1.out;have:=HIX.out;omega
    case rel=>exact ⟨wrap64 (x+1),ix+1,_,(by first|rfl|(simp;done)|(rw [HW.out];first|rfl|(simp;done))),⟨HW.out⟩,⟨by have:=HK1.out;have:=HIX.out;omega⟩,⟨by rw [HST.out,HT.out,rA,← HX.out,HSG.out]⟩,⟨hh1⟩,HBS,HO9,⟨hb1⟩⟩
   ·have HSG:=aE (show (if bt a0_1 x=45 then (-1:Int) else 1)=1 by rw [if_neg cv])
    have cvb:((bt a0_1 x)==45)=false:=beq_eq_false_iff_ne.2 cv
    clear cv
    go_wp2_with (first|((with_reducible refine aN (N:=5) rfl ?_);refine jS ?hg (N:=5) ?hd (cs:=#[.int .i64 0,.int .i64 0,.int .i64 0]) (t:=56) ?hr ?_;(case hd=>rfl);(case hg=>rfl);(case hr=>first|(go_simp;done)|(go_simp;rfl));intro gb105 hg w8 hbox hb;have n1_:=aE (Kd.R_below (Kd.R_elderB (by (with_reducible repeat (first|apply kD|apply kE|apply gU));exact HO_8.out) gb105 (Nat.le_of_eq hg.symm)) hb);have n2_:=aE (aD (by repeat (first|(with_reducible first|exact HB.out|apply mH|apply oN|apply jK)|exact HB.out)) hb);have n3_:=aE (hbox);have n4_:=aE (show gb105≠g by have:=iC HI0.out;rw [hg];show _≠g;exact Nat.ne_of_gt this);have n5_:=aE ((by rw [hg];exact (aT (by repeat (first|(with_reducible first|exact HB.out|apply mH|apply oN|apply jK)|exact HB.out))):w.heap.size≤gb105));have n6_:=aE (HI0.out.below hb);have n7_:=aE (aZ BS.out hb);have n8_:=aE (show gb105≠gS by have:=gB BS.out;rw [hg];show _≠gS;exact Nat.ne_of_gt this);clear HO_8;clear HB;clear HI0 BS;have HO_8:=n1_;have HB:=n2_;have BK105:=n3_;have GW105:=n4_;have GE105:=n5_;have HI0:=n6_;have BS:=n7_;have GS105:=n8_;clear n1_ n2_ n3_ n4_ n5_ n6_ n7_ n8_;clear hb hbox hg;have hcz9_0:w8.cell? ⟨gb105,0,none⟩=some (.int .i64 0):=(bK BK105.out 0).trans rfl;have hcz9_1:w8.cell? ⟨gb105,1,none⟩=some (.int .i64 0):=(bK BK105.out 1).trans rfl;have hcz9_2:w8.cell? ⟨gb105,2,none⟩=some (.int .i64 0):=(bK BK105.out 2).trans rfl;have hfz9_0:=aA BK105.out 0;have hfz9_1:=aA BK105.out 1;have hfz9_2:=aA BK105.out 2;have hczS:(((w8.setCell ⟨gb105,0,none⟩ (.int .i64 (aG r x).f0)).setCell ⟨gb105,1,none⟩ (.int .i64 (aG r x).f1)).setCell ⟨gb105,2,none⟩ (.int .i64 (aG r x).f2)).cell? ⟨gS,1,none⟩=some (.string a0_1):=(bK (g:=gS) (t:=41) (cs:=#[.int .i64 a0_0,.string a0_1]) ((Below.heap_setCell _ _ _ _ (Ne.symm GS105.out)).trans ((Below.heap_setCell _ _ _ _ (Ne.symm GS105.out)).trans ((Below.heap_setCell _ _ _ _ (Ne.symm GS105.out)).trans BS.out))) 1).trans rfl)|(go_at_call 81;have hA:=HASC.out;unfold chiAsc at hA;have hN:=GW105.out;(with_reducible refine (qA w _ g a0_0 T (aG r x).f0 (aG r x).f1 (aG r x).f2 1 ?h1 ?h2 (by omega) (by omega) (by omega)).mono ?_);(case h1=>exact lB (lB (lB HI0.out (Ne.symm hN) _) (Ne.symm hN) _) (Ne.symm hN) _);(case h2=>exact (by repeat (first|(with_reducible first|exact HB.out|apply mH|apply oN|apply jK|refine cE ?_ GE105.out)|exact HB.out)));rintro e' w10 ⟨rfl,hh1,hb1,hk1⟩))
    have HO9:=aE (Kd.R_keep (Kd.R_far (p:=⟨gb105,2,none⟩) (Kd.R_far (p:=⟨gb105,1,none⟩) (Kd.R_far (p:=⟨gb105,0,none⟩) (Kd.R_types HO_8.out HI0.out.1 (by decide)) (fun _ hk=>hk.1.2) (.int .i64 ((aG r x).f0))) (fun _ hk=>hk.1.2) (.int .i64 ((aG r x).f1))) (fun _ hk=>hk.1.2) (.int .i64 ((aG r x).f2))) hk1 (fun _ hk=>hk.2))
    have HO9:=aE (Kd.R_mono (ok':=fun _=>True) HO9.out (fun _ _=>trivial))
    have HBS:=aE (show w10.heap[gS]? = some (.cells #[.int .i64 a0_0,.string a0_1] 41 (0,0)) from (hk1.2 gS (by have:=gB BS.out;simpa [World.setCell] using this) HGG.out (by simp)).trans ((Below.heap_setCell _ _ _ _ (Ne.symm GS105.out)).trans ((Below.heap_setCell _ _ _ _ (Ne.symm GS105.out)).trans ((Below.heap_setCell _ _ _ _ (Ne.symm GS105.out)).trans BS.out))))
    go_roundg (gk-1)
    case measure=>have:=HK1.out;have:=HIX.out;omega
    case rel=>exact ⟨wrap64 (x+1),ix+1,_,(by first|rfl|(simp;done)|(rw [HW.out];first|rfl|(simp;done))),⟨HW.out⟩,⟨by have:=HK1.out;have:=HIX.out;omega⟩,⟨by rw [HST.out,HT.out,rA,← HX.out,HSG.out]⟩,⟨hh1⟩,HBS,HO9,⟨hb1⟩⟩
  ·have c5b0:decide (x<(r.length:Int))=false:=decide_eq_false c5
   have HE:=aE (show ix=r.length by have:=HK1.out;have:=HX.out;omega)
   clear c5
   go_wp2
   first|go_ret|go_ret2|go_end0
   exact ⟨g,rfl,by rw [HRR.out];unfold JV;rw [show r.zipIdx=(r.take ix).zipIdx by rw [HE.out,List.take_length],← HT.out];exact HI0.out,HB.out⟩
/-! ### impl_SignsOf: function 63 -/
theorem JW (n:Int) (h:3≤n∧n≤7):∀ t ∈ eW n,t.f2<n:=by
 obtain ⟨h1,h2⟩:=h
 have hn:n=3∨n=4∨n=5∨n=6∨n=7:=by omega
 have hd:∀ (m:Int) (l:List pO),l.all (fun t=>decide (t.f2<m))=true→∀ t ∈ l,t.f2<m:=by
  intro m l hl t ht
  have:=List.all_eq_true.1 hl t ht
  exact of_decide_eq_true this
 rcases hn with rfl|rfl|rfl|rfl|rfl <;> exact hd _ _ (by kernel_rfl)
def FW (l:List cF) (t:pO):Option Int:=impl_TurnOf.f (aC l t.f0).f0 (aC l t.f0).f1 (aC l t.f1).f0 (aC l t.f1).f1 (aC l t.f2).f0 (aC l t.f2).f1
def qB (l:List cF) (T:Nat→Int) (t:pO):Nat→Int:=IE T t.f0 t.f1 t.f2 ((FW l t).getD 0)
def DC (l:List cF) (L:List pO):Nat→Int:=L.foldl (qB l) fun _=>0
def impl_SignsOf.f (k:Nat) (l0:List cF):Option (Int×ByteArray×Bool):=(impl_ArePoints.f k l0).bind fun ok=>if ok=true then (if (3≤(l0.length:Int)∧(l0.length:Int)≤7)∧(∀ t ∈ eW (l0.length:Int),(FW l0 t).isSome=true) then some ((l0.length:Int),strOfNums ((eW (l0.length:Int)).map (FA (DC l0 (eW (l0.length:Int))))),true) else none) else some (0,(⟨#[]⟩:ByteArray),false)
def tH:Bool×List (List Nat×List Nat):=(true,[([],[]),([],[]),([1],[1]),([],[]),([3],[3]),([],[]),([5],[5]),([],[]),([],[]),([8],[8]),([7,9],[7,9]),([10],[10]),([],[]),([],[]),([13],[13]),([12,14],[12,14]),([15],[15]),([],[]),([],[]),([18],[18]),([17,19],[17,19]),([20],[20]),([11,16,21],[11,16,21]),([0,2,4,6,22,22],[0,2,4,6,22])])
def CO:List Nat:=[0,0,2,0,8,0,32,0,0,256,640,1024,0,0,8192,20480,32768,0,0,262144,655360,1048576,2164736,4194389]
theorem zA:iQ .any (iS Tryz.f63 7)=tH:=by kernel_rfl
theorem xT:dM tH.2 CO=true:=by kernel_rfl
set_option maxHeartbeats 8000000 in
set_option maxRecDepth 100000 in
theorem xU (k:Nat) (A0:Option Addr) (c0:Nat) (l0:List cF) (r1:Int) (r2:ByteArray) (r3:Bool) (w:World) (hr0:Kd.C jW w A0 l0.length l0) (hc0:l0.length≤c0) (h:impl_SignsOf.f k l0=some (r1,r2,r3)) :
  Calls Tryz.prog 63 #[.slice A0 l0.length c0] w fun e w'=>e=.returned (.tuple #[.agg #[.int .i64 r1,.string r2],.bool r3])∧Below w.heap.size w w':=by
 have hu65:=Tryz.underlying56
 have hu25:=Tryz.underlying28
 have hus:=Tryz.underlying41
 have HR0:=aE hr0
 have HC0:=aE hc0
 clear hr0 hc0
 have HB:=aE (Below.refl w.heap.size w)
 unfold impl_SignsOf.f at h
 obtain ⟨ok,hA,h⟩:=DB h
 have HA:=aE hA
 clear hA
 cases ok
 case false =>
  rw [if_neg (by decide)] at h
  simp only [Option.some.injEq,Prod.mk.injEq] at h
  obtain ⟨rfl,rfl,rfl⟩:=h
  go_enter Tryz.func63,Tryz.ntmps63
  go_wp2_with (first|((with_reducible refine aN (N:=2) rfl ?_);refine jS ?hg (N:=2) ?hd (cs:=#[.int .i64 0,.string (⟨#[]⟩:ByteArray)]) (t:=41) ?hr ?_;(case hd=>rfl);(case hg=>rfl);(case hr=>first|(go_simp;done)|(go_simp;rfl));intro gb101 hg w4 hbox hb;have n0_:=aE (aD (by repeat (first|(with_reducible first|exact HB.out|apply mH|apply oN|apply jK)|exact HB.out)) hb);have n1_:=aE (hbox);have n3_:=aE ((by rw [hg];exact (aT (by repeat (first|(with_reducible first|exact HB.out|apply mH|apply oN|apply jK)|exact HB.out))):w.heap.size≤gb101));clear HB;have HB:=n0_;have BK101:=n1_;have GE101:=n3_;clear n0_ n1_ n3_;clear hb hbox hg)|(go_at_call 30;(with_reducible refine (cA k A0 c0 l0 false _ ?side1 HC0.out HA.out).mono ?_);(case side1=>repeat (first|exact (Kd.C_below HR0.out HB.out)|(with_reducible refine Kd.C_alloc ?_ _)|(with_reducible refine Kd.C_drewN ?_ _)|(with_reducible refine Kd.C_drew ?_)));rintro e w6 ⟨rfl,hb⟩;have n0_:=aE (aD (by repeat (first|(with_reducible first|exact HB.out|apply mH|apply oN|apply jK)|exact HB.out)) hb);have n1_:=aE (aZ (g:=gb101) (o:=.cells #[.int .i64 0,.string (⟨#[]⟩:ByteArray)] 41 (0,0)) BK101.out hb);clear HB BK101;have HB:=n0_;have BK101:=n1_;clear n0_ n1_ hb;have hcz14_0:w6.cell? ⟨gb101,0,none⟩=some (.int .i64 0):=(bK BK101.out 0).trans rfl;have hcz14_1:w6.cell? ⟨gb101,1,none⟩=some (.string (⟨#[]⟩:ByteArray)):=(bK BK101.out 1).trans rfl;have hfz14_0:=aA BK101.out 0;have hfz14_1:=aA BK101.out 1))
  refine bodyPost_ret (sW rfl _ _ gb101 41 #[.int .i64 0,.string (⟨#[]⟩:ByteArray)] (0,0) _ rfl (by (with_reducible repeat (first|refine aM ?_ _|refine aI ?_|refine aK ?_ _));refine bQ (cs:=#[.int .i64 0,.string (⟨#[]⟩:ByteArray)]) ?_ 1 _ rfl;(with_reducible repeat (first|refine aM ?_ _|refine aI ?_|refine aK ?_ _));refine bQ (cs:=#[.int .i64 0,.string (⟨#[]⟩:ByteArray)]) ?_ 0 _ rfl;(with_reducible repeat (first|refine aM ?_ _|refine aI ?_|refine aK ?_ _));exact BK101.out) Tryz.underlying41 rfl (by kernel_rfl)) rfl ?_
  exact ⟨by first|rfl|(simp [cG,cI] <;> rfl)|(simp [*,cG,cI] <;> rfl),by repeat (first|(with_reducible first|exact HB.out|apply mH|apply oN|apply jK|refine cE ?_ GE101.out)|exact HB.out)⟩
 rw [if_pos rfl] at h
 by_cases hc:(3≤(l0.length:Int)∧(l0.length:Int)≤7)∧(∀ t ∈ eW (l0.length:Int),(FW l0 t).isSome=true)
 case neg=>rw [if_neg hc] at h;cases h
 rw [if_pos hc] at h
 simp only [Option.some.injEq,Prod.mk.injEq] at h
 obtain ⟨rfl,rfl,rfl⟩:=h
 obtain ⟨hR,hL,hS⟩:=JU _ hc.1
 have HR:=aE hR
 have HL:=aE hL
 have HAS:=aE hS
 have HLL:=aE (JW _ hc.1)
 have HSO:=aE hc.2
 clear hR hL hS hc
 go_enter Tryz.func63,Tryz.ntmps63
 go_wp2_with (first|((with_reducible refine aN (N:=2) rfl ?_);refine jS ?hg (N:=2) ?hd (cs:=#[.int .i64 0,.string (⟨#[]⟩:ByteArray)]) (t:=41) ?hr ?_;(case hd=>rfl);(case hg=>rfl);(case hr=>first|(go_simp;done)|(go_simp;rfl));intro gb101 hg w4 hbox hb;have n0_:=aE (aD (by repeat (first|(with_reducible first|exact HB.out|apply mH|apply oN|apply jK)|exact HB.out)) hb);have n1_:=aE (hbox);have n3_:=aE ((by rw [hg];exact (aT (by repeat (first|(with_reducible first|exact HB.out|apply mH|apply oN|apply jK)|exact HB.out))):w.heap.size≤gb101));clear HB;have HB:=n0_;have BK101:=n1_;have GE101:=n3_;clear n0_ n1_ n3_;clear hb hbox hg)|(go_at_call 30;(with_reducible refine (cA k A0 c0 l0 true _ ?side1 HC0.out HA.out).mono ?_);(case side1=>repeat (first|exact (Kd.C_below HR0.out HB.out)|(with_reducible refine Kd.C_alloc ?_ _)|(with_reducible refine Kd.C_drewN ?_ _)|(with_reducible refine Kd.C_drew ?_)));rintro e w6 ⟨rfl,hb⟩;have n0_:=aE (aD (by repeat (first|(with_reducible first|exact HB.out|apply mH|apply oN|apply jK)|exact HB.out)) hb);have n1_:=aE (aZ (g:=gb101) (o:=.cells #[.int .i64 0,.string (⟨#[]⟩:ByteArray)] 41 (0,0)) BK101.out hb);clear HB BK101;have HB:=n0_;have BK101:=n1_;clear n0_ n1_ hb))
 have hch:(w6.alloc (.cells (Tryz.zeroCells96.setIfInBounds 0 (.int .i64 (l0.length:Int))) 96)).heap[w6.heap.size]? = some (.cells (qT (l0.length:Int) (fun _=>0)) 96 (0,0)):=by
  rw [← FV]
  exact yN w6 _
 obtain ⟨g,hg⟩:∃ g,w6.heap.size=g:=⟨_,rfl⟩
 have HGG:=aE (show gb101≠g by have:=gB BK101.out;rw [← hg];exact Nat.ne_of_lt this)
 have hgw:w.heap.size≤g:=by rw [← hg];exact aT HB.out
 rw [hg] at hch ⊢
 have n1_:=aE (mH HB.out (.cells (Tryz.zeroCells96.setIfInBounds 0 (.int .i64 (l0.length:Int))) 96))
 have n2_:=aE (aK BK101.out (.cells (Tryz.zeroCells96.setIfInBounds 0 (.int .i64 (l0.length:Int))) 96))
 have HI0:=aE (show cS w _ g (l0.length:Int) (fun _=>0) from ⟨hch,hgw⟩)
 clear HB BK101 hch hgw hg
 have HB:=n1_
 have BK101:=n2_
 clear n1_ n2_
 generalize w6.alloc (.cells (Tryz.zeroCells96.setIfInBounds 0 (.int .i64 (l0.length:Int))) 96)=wC at HB BK101 HI0 ⊢
 (with_reducible refine (eI 300 (l0.length:Int) (eW (l0.length:Int)) _ HR.out).mono ?_)
 rintro e w3 ⟨v102,rfl,ho0,hb⟩
 have HO_8:=aE (Kd.R_lower ho0 (aT HB.out))
 have n1_:=aE (aD HB.out hb)
 have n2_:=aE (aZ BK101.out hb)
 have n3_:=aE (HI0.out.below hb)
 clear HB BK101 HI0
 have HB:=n1_
 have BK101:=n2_
 have HI0:=n3_
 clear n1_ n2_ n3_ hb ho0
 obtain ⟨Ao4,co4,eo4⟩:=Kd.R_slice HO_8.out
 subst eo4
 obtain ⟨r,hr⟩:∃ r,eW (l0.length:Int)=r:=⟨_,rfl⟩
 have HRR:=aE hr
 rw [hr] at HO_8 HL HAS HLL HSO ⊢
 clear hr
 go_wp2
 go_loopg [21] r.length (fun kq v21 w'=>∃ (x:Int) (ix:Nat) (T:Nat→Int),v21=.int .i64 x∧Aside0 (x=(ix:Int))∧Aside0 (kq+ix=r.length)∧Aside0 (T=(r.take ix).foldl (qB l0) (fun _=>0))∧Aside0 (cS w w' g (l0.length:Int) T)∧Aside0 (w'.heap[gb101]? = some (.cells #[.int .i64 0,.string (⟨#[]⟩:ByteArray)] 41 (0,0)))∧Aside0 (Kd.R FQ 56 w' w.heap.size (fun _=>True) (.slice Ao4 r.length co4) r)∧Aside0 (Below w.heap.size w w'))
 case atStart=>exact ⟨0,0,_,rfl,⟨rfl⟩,⟨rfl⟩,⟨rfl⟩,HI0,BK101,HO_8,HB⟩
 case round =>
  clear HI0 BK101 HO_8 HB
  obtain ⟨x,ix,T,rfl,HX,HK1,HT,HI0,BK101,HO_8,HB⟩:=hrel
  by_cases c5:x<(r.length:Int)
  ·have c5b0:decide (x<(r.length:Int))=true:=decide_eq_true c5
   have hx:=HX.out
   have p104:0≤x:=by omega
   have q104:=c5
   have hixn:ix<r.length:=by omega
   have hrd:aG r x=r[ix]:=by rw [hx];simp [aG,hixn]
   have HASC:=aE (show chiAsc (aG r x) by rw [hrd];exact HAS.out _ (List.getElem_mem hixn))
   have HLT:=aE (show (aG r x).f2<(l0.length:Int) by rw [hrd];exact HLL.out _ (List.getElem_mem hixn))
   obtain ⟨v,hv⟩:=Option.isSome_iff_exists.1 (show (FW l0 (aG r x)).isSome=true by rw [hrd];exact HSO.out _ (List.getElem_mem hixn))
   have HST:=aE (show (r.take (ix+1)).foldl (qB l0) (fun _=>0)=IE ((r.take ix).foldl (qB l0) (fun _=>0)) ((aG r x).f0) ((aG r x).f1) ((aG r x).f2) v by rw [List.take_add_one,List.getElem?_eq_getElem hixn,List.foldl_append,← hrd];show qB l0 _ _=_;rw [qB,hv];rfl)
   have HV:=aE (show impl_TurnOf.f (aC l0 ((aG r x).f0)).f0 (aC l0 ((aG r x).f0)).f1 (aC l0 ((aG r x).f1)).f0 (aC l0 ((aG r x).f1)).f1 (aC l0 ((aG r x).f2)).f0 (aC l0 ((aG r x).f2)).f1=some v from hv)
   have HIX:=aE hixn
   have HW:wrap64 (x+1)=((ix+1:Nat):Int):=by have:=HL.out;unfold wrap64;omega
   have HW:=aE HW
   clear c5 hrd hixn hx hv
   obtain ⟨ad104,e104,hx104_0,hx104_1,hx104_2⟩:=rR (Kd.R_reads' HO_8.out).2.2 x p104 q104
   cases e104
   replace p104:=eq_true p104
   replace q104:=eq_true q104
   try go_wp2_with (first|((with_reducible refine aN (N:=6) rfl ?_);refine jS ?hg (N:=6) ?hd (cs:=#[.int .i64 0,.int .i64 0,.int .i64 0]) (t:=56) ?hr ?_;(case hd=>rfl);(case hg=>rfl);(case hr=>first|(go_simp;done)|(go_simp;rfl));intro gb106 hg w22 hbox hb;have n0_:=aE (Kd.R_below (Kd.R_elderB (by (with_reducible repeat (first|apply kD|apply kE|apply gU));exact HO_8.out) gb106 (Nat.le_of_eq hg.symm)) hb);have n1_:=aE (aD (by repeat (first|(with_reducible first|exact HB.out|apply mH|apply oN|apply jK)|exact HB.out)) hb);have n2_:=aE (hbox);have n3_:=aE (show gb106≠g by have:=iC HI0.out;rw [hg];show _≠g;exact Nat.ne_of_gt this);have n4_:=aE ((by rw [hg];exact (aT (by repeat (first|(with_reducible first|exact HB.out|apply mH|apply oN|apply jK)|exact HB.out))):w.heap.size≤gb106));have n5_:=aE (HI0.out.below hb);have n6_:=aE (aZ (g:=gb101) (o:=.cells #[.int .i64 0,.string (⟨#[]⟩:ByteArray)] 41 (0,0)) BK101.out hb);have n7_:=aE (show gb106≠gb101 by have:=gB BK101.out;rw [hg];show _≠gb101;exact Nat.ne_of_gt this);clear HO_8 HB HI0 BK101;have HO_8:=n0_;have HB:=n1_;have BK106:=n2_;have GW106:=n3_;have GE106:=n4_;have HI0:=n5_;have BK101:=n6_;have GS106:=n7_;clear n0_ n1_ n2_ n3_ n4_ n5_ n6_ n7_;clear hb hbox hg;have hcz23_0:w22.cell? ⟨gb106,0,none⟩=some (.int .i64 0):=(bK BK106.out 0).trans rfl;have hcz23_1:w22.cell? ⟨gb106,1,none⟩=some (.int .i64 0):=(bK BK106.out 1).trans rfl;have hcz23_2:w22.cell? ⟨gb106,2,none⟩=some (.int .i64 0):=(bK BK106.out 2).trans rfl;have hfz23_0:=aA BK106.out 0;have hfz23_1:=aA BK106.out 1;have hfz23_2:=aA BK106.out 2))
   have n0_:Aside0 (Kd.R FQ 56 (((w22.setCell ⟨gb106,0,none⟩ (.int .i64 ((aG r x).f0))).setCell ⟨gb106,1,none⟩ (.int .i64 ((aG r x).f1))).setCell ⟨gb106,2,none⟩ (.int .i64 ((aG r x).f2))) w.heap.size (fun k_=>(True∧k_≠gb106)∧k_≠g) (.slice (some ad104) r.length co4) r):=⟨Kd.R_mono (Kd.R_far (p:=⟨gb106,2,none⟩) (Kd.R_far (p:=⟨gb106,1,none⟩) (Kd.R_far (p:=⟨gb106,0,none⟩) (Kd.R_types HO_8.out HI0.out.1 (by decide)) (fun _ hk=>hk.1.2) (.int .i64 ((aG r x).f0))) (fun _ hk=>hk.1.2) (.int .i64 ((aG r x).f1))) (fun _ hk=>hk.1.2) (.int .i64 ((aG r x).f2))) (fun _ hk=>hk)⟩
   have n1_:Aside0 ((((w22.setCell ⟨gb106,0,none⟩ (.int .i64 ((aG r x).f0))).setCell ⟨gb106,1,none⟩ (.int .i64 ((aG r x).f1))).setCell ⟨gb106,2,none⟩ (.int .i64 ((aG r x).f2))).heap[gb106]? = some (.cells #[.int .i64 ((aG r x).f0),.int .i64 ((aG r x).f1),.int .i64 ((aG r x).f2)] 56 (0,0))):=⟨by refine bQ (cs:=#[.int .i64 ((aG r x).f0),.int .i64 ((aG r x).f1),.int .i64 0]) ?_ 2 _ rfl;refine bQ (cs:=#[.int .i64 ((aG r x).f0),.int .i64 0,.int .i64 0]) ?_ 1 _ rfl;refine bQ (cs:=#[.int .i64 0,.int .i64 0,.int .i64 0]) ?_ 0 _ rfl;exact BK106.out⟩
   have n2_:Aside0 (Below w.heap.size w (((w22.setCell ⟨gb106,0,none⟩ (.int .i64 ((aG r x).f0))).setCell ⟨gb106,1,none⟩ (.int .i64 ((aG r x).f1))).setCell ⟨gb106,2,none⟩ (.int .i64 ((aG r x).f2)))):=⟨by repeat (first|(with_reducible first|exact HB.out|refine cE ?_ GE106.out)|exact HB.out)⟩
   have n3_:Aside0 (cS w (((w22.setCell ⟨gb106,0,none⟩ (.int .i64 ((aG r x).f0))).setCell ⟨gb106,1,none⟩ (.int .i64 ((aG r x).f1))).setCell ⟨gb106,2,none⟩ (.int .i64 ((aG r x).f2))) g (l0.length:Int) T):=⟨lB (lB (lB HI0.out (Ne.symm GW106.out) _) (Ne.symm GW106.out) _) (Ne.symm GW106.out) _⟩
   have n4_:Aside0 ((((w22.setCell ⟨gb106,0,none⟩ (.int .i64 ((aG r x).f0))).setCell ⟨gb106,1,none⟩ (.int .i64 ((aG r x).f1))).setCell ⟨gb106,2,none⟩ (.int .i64 ((aG r x).f2))).heap[gb101]? = some (.cells #[.int .i64 0,.string (⟨#[]⟩:ByteArray)] 41 (0,0))):=⟨(Below.heap_setCell _ _ _ _ (Ne.symm GS106.out)).trans ((Below.heap_setCell _ _ _ _ (Ne.symm GS106.out)).trans ((Below.heap_setCell _ _ _ _ (Ne.symm GS106.out)).trans BK101.out))⟩
   clear HO_8 BK106 HB HI0 BK101
   generalize (((w22.setCell ⟨gb106,0,none⟩ (.int .i64 ((aG r x).f0))).setCell ⟨gb106,1,none⟩ (.int .i64 ((aG r x).f1))).setCell ⟨gb106,2,none⟩ (.int .i64 ((aG r x).f2)))=w24 at n0_ n1_ n2_ n3_ n4_ ⊢
   have HO_8:=aE (gU n0_.out)
   have BK106:=aE (aI n1_.out)
   have HB:=aE (jK n2_.out)
   have HI0:=aE n3_.out.drew
   have BK101:=aE (aI n4_.out)
   clear n0_ n1_ n2_ n3_ n4_
   have p107:0≤((aG r x).f0):=by have:=HASC.out;unfold chiAsc at this;omega
   have q107:((aG r x).f0)<(l0.length:Int):=by have:=HASC.out;have:=HLT.out;unfold chiAsc at *;omega
   obtain ⟨ad107,e107,hx107_0,hx107_1⟩:=bW HR0.out ((aG r x).f0) p107 q107
   have hw107_1:=hx107_1
   have hw107_0:=hx107_0
   cases e107
   replace hx107_0:=(HB.out.cell (World.block_lt_of_cell? w _ hx107_0)).trans hx107_0
   replace hx107_1:=(HB.out.cell (World.block_lt_of_cell? w _ hx107_1)).trans hx107_1
   replace p107:=eq_true p107
   replace q107:=eq_true q107
   have p108:0≤((aG r x).f1):=by have:=HASC.out;unfold chiAsc at this;omega
   have q108:((aG r x).f1)<(l0.length:Int):=by have:=HASC.out;have:=HLT.out;unfold chiAsc at *;omega
   obtain ⟨ad108,e108,hx108_0,hx108_1⟩:=bW HR0.out ((aG r x).f1) p108 q108
   have hw108_1:=hx108_1
   have hw108_0:=hx108_0
   obtain rfl:ad107=ad108:=(by injection e108)
   replace hx108_0:=(HB.out.cell (World.block_lt_of_cell? w _ hx108_0)).trans hx108_0
   replace hx108_1:=(HB.out.cell (World.block_lt_of_cell? w _ hx108_1)).trans hx108_1
   replace p108:=eq_true p108
   replace q108:=eq_true q108
   have p109:0≤((aG r x).f2):=by have:=HASC.out;unfold chiAsc at this;omega
   have q109:((aG r x).f2)<(l0.length:Int):=by have:=HASC.out;have:=HLT.out;unfold chiAsc at *;omega
   obtain ⟨ad109,e109,hx109_0,hx109_1⟩:=bW HR0.out ((aG r x).f2) p109 q109
   have hw109_1:=hx109_1
   have hw109_0:=hx109_0
   obtain rfl:ad107=ad109:=(by injection e109)
   replace hx109_0:=(HB.out.cell (World.block_lt_of_cell? w _ hx109_0)).trans hx109_0
   replace hx109_1:=(HB.out.cell (World.block_lt_of_cell? w _ hx109_1)).trans hx109_1
   replace p109:=eq_true p109
   replace q109:=eq_true q109
   refine dA (n:=24) (S:=fun w'=>w'.cell? ⟨gb106,0,none⟩=some (.int .i64 ((aG r x).f0))∧w'.cell? ⟨gb106,1,none⟩=some (.int .i64 ((aG r x).f1))∧w'.cell? ⟨gb106,2,none⟩=some (.int .i64 ((aG r x).f2))∧w'.cell? (ad107.add (((aG r x).f0).toNat*2))=some (.int .i64 (aC l0 ((aG r x).f0)).f0)∧w'.cell? ⟨(ad107.add (((aG r x).f0).toNat*2)).block,(ad107.add (((aG r x).f0).toNat*2)).off+1,none⟩=some (.int .i64 (aC l0 ((aG r x).f0)).f1)∧w'.cell? (ad107.add (((aG r x).f1).toNat*2))=some (.int .i64 (aC l0 ((aG r x).f1)).f0)∧w'.cell? ⟨(ad107.add (((aG r x).f1).toNat*2)).block,(ad107.add (((aG r x).f1).toNat*2)).off+1,none⟩=some (.int .i64 (aC l0 ((aG r x).f1)).f1)∧w'.cell? (ad107.add (((aG r x).f2).toNat*2))=some (.int .i64 (aC l0 ((aG r x).f2)).f0)∧w'.cell? ⟨(ad107.add (((aG r x).f2).toNat*2)).block,(ad107.add (((aG r x).f2).toNat*2)).off+1,none⟩=some (.int .i64 (aC l0 ((aG r x).f2)).f1)) (ds:=[]) (bm 24 0) (by kernel_rfl) rfl rfl ⟨(bK BK106.out 0).trans rfl,(bK BK106.out 1).trans rfl,(bK BK106.out 2).trans rfl,((HB.out.cell (World.block_lt_of_cell? w _ hw107_0)).trans hw107_0),((HB.out.cell (World.block_lt_of_cell? w _ hw107_1)).trans hw107_1),((HB.out.cell (World.block_lt_of_cell? w _ hw108_0)).trans hw108_0),((HB.out.cell (World.block_lt_of_cell? w _ hw108_1)).trans hw108_1),((HB.out.cell (World.block_lt_of_cell? w _ hw109_0)).trans hw109_0),((HB.out.cell (World.block_lt_of_cell? w _ hw109_1)).trans hw109_1)⟩ (fun hHeld=>?_);refine bO zA xT (fun HT_ HW_=>?_)
   generalize w24.drew=w30 at HO_8 BK106 HB HI0 BK101 hx107_0 hx107_1 hx108_0 hx108_1 hx109_0 hx109_1 hHeld ⊢
   refine bU ((0,0,25,1)::(0,1,26,3)::(2,2,27,7)::(0,3,28,15)::(2,4,29,31)::(0,5,30,63)::(2,6,31,127)::(0,7,32,255)::(0,8,33,511)::(2,9,34,1023)::(0,10,35,2047)::(2,11,36,4095)::(0,12,37,8191)::(0,13,38,16383)::(2,14,39,32767)::(0,15,40,65535)::(2,16,41,131071)::(0,17,42,262143)::(0,18,43,524287)::(2,19,44,1048575)::(0,20,45,2097151)::(2,21,46,4194303)::[]) ?_
   iterate 22 (first|(refine mD ?_ ?_ rfl rfl (lN HT_.out (by kernel_rfl)) (fun _ _ _ h=>h) (Or.inl ⟨by rfl,?_⟩) ?_ ?_;rotate_left 2;(· intro w';go_simp;with_reducible rfl);(· simp only [Act.put,List.setIfInBounds_toArray,List.set_cons_zero,List.set_cons_succ,cC,dW];rfl))|(refine AP ?_ ?_ rfl rfl (uY HT_.out HW_.out (by kernel_rfl)) (fun _ _ _ h=>h) (Or.inl ⟨by rfl,?_⟩) hHeld ?_ ?_;rotate_left 2;(· rintro w' ⟨s0,s1,s2,s3,s4,s5,s6,s7,s8⟩;go_simp;with_reducible rfl);(· simp only [Act.put,List.setIfInBounds_toArray,List.set_cons_zero,List.set_cons_succ,cC,dW];rfl)))
   refine aU ?_
   refine dQ (i:=22) (N:=some 47) (bm 24 8388607) rfl rfl (bJ HT_.out (by kernel_rfl)) (by decide) (fun K hK=>?_)
   refine yR Tryz.func49 (by kernel_rfl) rfl #[.agg #[.int .i64 (aC l0 ((aG r x).f0)).f0,.int .i64 (aC l0 ((aG r x).f0)).f1],.agg #[.int .i64 (aC l0 ((aG r x).f1)).f0,.int .i64 (aC l0 ((aG r x).f1)).f1],.agg #[.int .i64 (aC l0 ((aG r x).f2)).f0,.int .i64 (aC l0 ((aG r x).f2)).f1]] (by rfl) rfl rfl (by (try simp only [List.map_toArray,List.map_cons,List.map_nil]);first|done|rfl) ?_
   with_reducible refine (kG ((aC l0 ((aG r x).f0)).f0) ((aC l0 ((aG r x).f0)).f1) ((aC l0 ((aG r x).f1)).f0) ((aC l0 ((aG r x).f1)).f1) ((aC l0 ((aG r x).f2)).f0) ((aC l0 ((aG r x).f2)).f1) v _ HV.out).mono ?_
   rintro e w31 ⟨rfl,hb⟩
   refine ⟨_,rfl,?_⟩
   have n0_:=aE (Kd.R_below HO_8.out hb)
   have n1_:=aE (aZ (g:=gb106) (o:=.cells #[.int .i64 ((aG r x).f0),.int .i64 ((aG r x).f1),.int .i64 ((aG r x).f2)] 56 (0,0)) BK106.out hb)
   have n2_:=aE (aD HB.out hb)
   have n3_:=aE (HI0.out.below hb)
   have n4_:=aE (aZ (g:=gb101) (o:=.cells #[.int .i64 0,.string (⟨#[]⟩:ByteArray)] 41 (0,0)) BK101.out hb)
   clear HO_8 BK106 HB HI0 BK101
   have HO_8:=n0_
   have BK106:=n1_
   have HB:=n2_
   have HI0:=n3_
   have BK101:=n4_
   clear n0_ n1_ n2_ n3_ n4_ hb
   refine hK.out _ _ ⟨(bK BK106.out 0).trans rfl,(bK BK106.out 1).trans rfl,(bK BK106.out 2).trans rfl,((HB.out.cell (World.block_lt_of_cell? w _ hw107_0)).trans hw107_0),((HB.out.cell (World.block_lt_of_cell? w _ hw107_1)).trans hw107_1),((HB.out.cell (World.block_lt_of_cell? w _ hw108_0)).trans hw108_0),((HB.out.cell (World.block_lt_of_cell? w _ hw108_1)).trans hw108_1),((HB.out.cell (World.block_lt_of_cell? w _ hw109_0)).trans hw109_0),((HB.out.cell (World.block_lt_of_cell? w _ hw109_1)).trans hw109_1)⟩ (fun hHeld=>?_)
   clear hK K
   refine QH (a':=?_) ?_ ?_
   rotate_left
   ·show Act.put _ (some 47) _=_
    simp only [Act.put,List.setIfInBounds_toArray,List.set_cons_zero,List.set_cons_succ,cC,dW]
    rfl
   refine dQ (i:=23) (N:=some 48) (bm 24 16777215) rfl rfl (bJ HT_.out (by kernel_rfl)) (by decide) (fun K hK=>?_)
   refine yR Tryz.func81 (by kernel_rfl) rfl #[.pointer (some ⟨g,0,none⟩),.int .i64 ((aG r x).f0),.int .i64 ((aG r x).f1),.int .i64 ((aG r x).f2),.int .i64 v] (by rfl) rfl rfl (by (try simp only [List.map_toArray,List.map_cons,List.map_nil]);first|done|rfl) ?_
   have hA:=HASC.out
   unfold chiAsc at hA
   (with_reducible refine (qA w _ g (l0.length:Int) T ((aG r x).f0) ((aG r x).f1) ((aG r x).f2) v HI0.out HB.out (by omega) (by omega) (by omega)).mono ?_)
   rintro e' w10 ⟨rfl,hh1,hb1,hk1⟩
   refine ⟨_,rfl,?_⟩
   have HO9:=aE (Kd.R_mono (ok':=fun _=>True) (Kd.R_keep HO_8.out hk1 (fun _ hk=>hk.2)) (fun _ _=>trivial))
   have HBS:=aE (show w10.heap[gb101]? = some (.cells #[.int .i64 0,.string (⟨#[]⟩:ByteArray)] 41 (0,0)) from (hk1.2 gb101 (gB BK101.out) HGG.out (by simp)).trans BK101.out)
   have HB6:=aE (show w10.heap[gb106]? = some (.cells #[.int .i64 ((aG r x).f0),.int .i64 ((aG r x).f1),.int .i64 ((aG r x).f2)] 56 (0,0)) from (hk1.2 gb106 (gB BK106.out) GW106.out (by simp)).trans BK106.out)
   clear HO_8 BK106 HB HI0 BK101
   have BK106:=HB6
   have HB:=aE hb1
   refine hK.out _ _ ⟨(bK BK106.out 0).trans rfl,(bK BK106.out 1).trans rfl,(bK BK106.out 2).trans rfl,((HB.out.cell (World.block_lt_of_cell? w _ hw107_0)).trans hw107_0),((HB.out.cell (World.block_lt_of_cell? w _ hw107_1)).trans hw107_1),((HB.out.cell (World.block_lt_of_cell? w _ hw108_0)).trans hw108_0),((HB.out.cell (World.block_lt_of_cell? w _ hw108_1)).trans hw108_1),((HB.out.cell (World.block_lt_of_cell? w _ hw109_0)).trans hw109_0),((HB.out.cell (World.block_lt_of_cell? w _ hw109_1)).trans hw109_1)⟩ (fun hHeld=>?_)
   clear hK K
   refine eN (cK HT_.out (by kernel_rfl)) ?_
   try go_wp2
   go_roundg (gk-1)
   case measure=>have:=HK1.out;have:=HIX.out;omega
   case rel=>exact ⟨wrap64 (x+1),ix+1,_,(by first|rfl|(simp;done)|(rw [HW.out];first|rfl|(simp;done))),⟨HW.out⟩,⟨by have:=HK1.out;have:=HIX.out;omega⟩,⟨by rw [HST.out,HT.out]⟩,⟨hh1⟩,HBS,HO9,⟨hb1⟩⟩
  ·have c5b0:decide (x<(r.length:Int))=false:=decide_eq_false c5
   have HE:=aE (show ix=r.length by have:=HK1.out;have:=HX.out;omega)
   clear c5
   go_wp2_with (first|(go_at_call 82;(with_reducible refine (AR 300 w _ g (l0.length:Int) T r (by rw [← HRR.out];exact HR.out) HL.out HAS.out HI0.out).mono ?_);rintro e w7 ⟨rfl,hb⟩;have n0_:=aE (aD HB.out hb);have n1_:=aE (aZ (g:=gb101) (o:=.cells #[.int .i64 0,.string (⟨#[]⟩:ByteArray)] 41 (0,0)) BK101.out hb);clear HB BK101;have HB:=n0_;have BK101:=n1_;clear n0_ n1_ hb;have hcz14_0:w7.cell? ⟨gb101,0,none⟩=some (.int .i64 0):=(bK BK101.out 0).trans rfl;have hcz14_1:w7.cell? ⟨gb101,1,none⟩=some (.string (⟨#[]⟩:ByteArray)):=(bK BK101.out 1).trans rfl;have hfz14_0:=aA BK101.out 0;have hfz14_1:=aA BK101.out 1))
   have hTT:T=DC l0 r:=by rw [HT.out,HE.out,List.take_length];rfl
   rw [HRR.out,← hTT]
   refine bodyPost_ret (sW rfl _ _ gb101 41 #[.int .i64 (l0.length:Int),.string (strOfNums (r.map (FA T)))] (0,0) _ rfl (by (with_reducible repeat (first|refine aM ?_ _|refine aI ?_|refine aK ?_ _));refine bQ (cs:=#[.int .i64 (l0.length:Int),.string (⟨#[]⟩:ByteArray)]) ?_ 1 _ rfl;(with_reducible repeat (first|refine aM ?_ _|refine aI ?_|refine aK ?_ _));refine bQ (cs:=#[.int .i64 0,.string (⟨#[]⟩:ByteArray)]) ?_ 0 _ rfl;(with_reducible repeat (first|refine aM ?_ _|refine aI ?_|refine aK ?_ _));exact BK101.out) Tryz.underlying41 rfl (by kernel_rfl)) rfl ?_
   exact ⟨by first|rfl|(simp [cG,cI] <;> rfl)|(simp [*,cG,cI] <;> rfl),by repeat (first|(with_reducible first|exact HB.out|apply mH|apply oN|apply jK|refine cE ?_ GE101.out)|exact HB.out)⟩
/-! ### impl_elementsOf: function 83 -/
def dO:Nat→Int→List Int→Int→Option (List Int)
 | 0,_,_,_=>none
 | k+1,x0,x3,x4=>if x4<63 then (if 0≤x4 then (if (Go.bits .and .i64 (RF .i64 x0 x4) 1)=1 then (if x3.length<17592186044416 then (dO k x0 (x3++[x4]) (wrap64 (x4+1))) else (none)) else (dO k x0 x3 (wrap64 (x4+1)))) else (none)) else (some x3)
def impl_elementsOf.f (k:Nat) (a0:Int):Option (List Int):=dO k a0 ([]:List Int) 0
theorem mQ:∀ k,(∀ y0 y1 y2,LeO (dO k y0 y1 y2) (dO (k+1) y0 y1 y2))
 | 0=>fun _ _ _ r h=>by simp [dO] at h
 | k+1=>by
  have ih0:=mQ k
  (intros;unfold dO;repeat' (with_reducible first|exact ih0 _ _ _|exact LeO.refl _|exact LeO.none _|refine jA ?_ ?_|refine LeO.bind ?_ (fun _=>?_)))
theorem impl_elementsOf.mono:∀ a0 k,LeO (impl_elementsOf.f k a0) (impl_elementsOf.f (k+1) a0):=by
 intro a0 k
 have ih0:=mQ k
 unfold impl_elementsOf.f
 repeat' (with_reducible first|exact ih0 _ _ _|exact LeO.refl _|exact LeO.none _|refine jA ?_ ?_|refine LeO.bind ?_ (fun _=>?_))
set_option maxHeartbeats 8000000 in
set_option maxRecDepth 100000 in
theorem uJ (k:Nat) (a0:Int) (r:List Int) (w:World) (h:impl_elementsOf.f k a0=some r) :
  Calls Tryz.prog 83 #[.int .i64 a0] w fun e w'=>∃ v0_:Value,e=.returned (v0_)∧Kd.R (Kd.int .i64) 3 w' w.heap.size (fun _=>True) v0_ r∧Below w.heap.size w w':=by
 have HB:=aE (Below.refl w.heap.size w)
 unfold impl_elementsOf.f at h
 have H:=h
 clear h
 have H':=aE H
 clear H
 go_enter Tryz.func83,Tryz.ntmps83
 go_wp2
 go_loopg [3,4] k (fun kq v3 v4 w'=>∃ (x3_1:List Int) (x4_1:Int),v4=.int .i64 x4_1∧Aside0 (dO kq a0 x3_1 x4_1=some r)∧Aside0 (kq≤k)∧Aside0 (Kd.R (Kd.int .i64) 3 w' w.heap.size (fun _=>True) v3 x3_1)∧Aside0 (Below w.heap.size w w'))
 case atStart=>exact ⟨(([]:List Int)),(0),aH,H',⟨Nat.le_refl _⟩,⟨by first|exact Kd.R_nil _ _ _ _ _|exact Kd.N_nil _ _ _ _ _|exact Kd.V_nil _ _ _ _ _|exact Kd.Q_nil _ _ _ _ _|exact Kd.S_nil _ _ _ _ _⟩,⟨aX HB⟩⟩
 case round =>
  clear H'
  obtain ⟨x3_1,x4_1,rfl,HA,HK1,HO_3,HB⟩:=hrel
  cases gk with
  | zero=>exact absurd HA.out (by simp [dO])
  | succ k1 =>
   have H:=HA.out
   clear HA
   simp only [dO] at H
   rcases eV H with ⟨c2b0,H⟩|⟨c2b0,H⟩
   ·obtain ⟨c3,H⟩:=gQ H
    have c3b0:=eq_true c3
    have c3b1:=decide_eq_true c3
    clear c3
    obtain ⟨ji4,hji4⟩:∃ j_:Int,(RF .i64 a0 x4_1)=j_:=⟨_,rfl⟩
    replace H:(if (Go.bits .and .i64 (ji4) 1)=1 then (if x3_1.length<17592186044416 then (dO k1 a0 (x3_1++[x4_1]) (wrap64 (x4_1+1))) else (none)) else (dO k1 a0 x3_1 (wrap64 (x4_1+1))))=some r:=by first|(rw [hji4] at H;exact H)|(simp only [hji4] at H ⊢;exact H)
    have hji4_:(a0 / 2 ^ min x4_1.toNat 64)=ji4:=hji4
    have hji4z:x4_1≤64→(a0 / 2 ^ x4_1.toNat)=ji4:=AO hji4
    rcases jE H with ⟨c5,H⟩|⟨c5,H⟩
    ·have c5b0:((Go.bits .and .i64 (ji4) 1)==1)=true:=beq_iff_eq.mpr c5
     have c5b1:((Go.bits .and .i64 (ji4) 1) != 1)=false:=bne_eq_false_iff_eq.mpr c5
     clear c5
     obtain ⟨c6,H⟩:=gQ H
     have LMc6:=aE c6
     clear c6
     obtain ⟨y101,hy101⟩:∃ y_:List Int,y_=(x3_1++[x4_1]):=⟨_,rfl⟩
     first|(with_reducible replace H:=oO hy101 H)|(with_reducible replace H:=oP hy101 H)|rw [← hy101] at H
     have Ny101:=aE hy101
     clear hy101
     have H':=aE H
     clear H
     go_wp2_with (first|((with_reducible refine cT (b:=.append) (xs:=#[.tmp 14,.tmp 16]) rfl ?_);at_builtin;refine Kd.R_append (Kd.int .i64) (w0:=w) w.heap.size rfl (.tmp 14) (.tmp 16) 33 3 (.int .i64 0) 8 rfl Tryz.underlying33 mO rfl (by decide) (by omega) u3 x3_1 x4_1 [.int .i64 x4_1] (fun _=>True) (fun _=>False) rfl rfl ?aP (fun _ hk=>hk.elim) ?aF ?aO ?aB ?aS ?aL ?_;(case aP=>exact rfl);(case aB=>exact (aX HB));(case aF=>exact (fun _ _=>trivial));(case aO=>exact (bN HO_3));(case aS=>exact (aT (aX HB)));(case aL=>have:=LMc6.out;omega);intro v102 w7 ho hb hg hat;rw [← Ny101.out] at ho;replace HB:=aE (hb);have HO103:=aE (ho);clear HO_3;clear ho hb hg hat))
     go_roundg k1
     case measure=>have:=HK1.out;omega
     case rel=>exact ⟨(y101),(wrap64 (x4_1+1)),aH,H',⟨by have:=HK1.out;omega⟩,⟨bN HO103⟩,⟨aX HB⟩⟩
    ·have c5b0:((Go.bits .and .i64 (ji4) 1)==1)=false:=beq_eq_false_iff_ne.mpr c5
     have c5b1:((Go.bits .and .i64 (ji4) 1) != 1)=true:=bne_iff_ne.mpr c5
     have H':=aE H
     clear H
     go_wp2
     go_roundg k1
     case measure=>have:=HK1.out;omega
     case rel=>exact ⟨(x3_1),(wrap64 (x4_1+1)),aH,H',⟨by have:=HK1.out;omega⟩,⟨bN HO_3⟩,⟨aX HB⟩⟩
   ·obtain rfl:=Option.some.inj H
    go_wp2
    go_ret
    exact ⟨_,bP,bN HO_3,aX HB⟩
/-! ### impl_opposite: function 122 -/
def JX (b:UInt8):UInt8:=if b=43 then 45 else if b=45 then 43 else b
def rB (b:Int):Int:=if b=43 then 45 else if b=45 then 43 else b
theorem UC (b:UInt8):rB (b.toNat:Int)=((JX b).toNat:Int):=by
 unfold rB JX
 by_cases h1:b=43
 ·subst h1;rfl
 ·have e1:¬ ((b.toNat:Int)=43):=fun e=>h1 (by apply UInt8.toNat_inj.1;show b.toNat=43;omega)
  rw [if_neg h1,if_neg e1]
  by_cases h2:b=45
  ·subst h2;rfl
  ·have e2:¬ ((b.toNat:Int)=45):=fun e=>h2 (by apply UInt8.toNat_inj.1;show b.toNat=45;omega)
   rw [if_neg h2,if_neg e2]
def rC (s:ByteArray):ByteArray:=⟨(s.data.toList.map JX).toArray⟩
def uK (s:ByteArray):List Int:=s.data.toList.map fun b=>(b.toNat:Int)
theorem vA (s:ByteArray):(uK s).length=s.size:=by unfold uK;rw [List.length_map,Array.length_toList];rfl
def impl_opposite.f (a0:ByteArray):Option ByteArray:=if a0.size<4611686018427387904 then some (rC a0) else none
theorem RS {w:World} {g:Nat} {t:TypeId} {fr:Nat×Nat} {cs:Array Value} (h:w.heap[g]? = some (.cells cs t fr)) (i:Nat) (u:Value):(w.setCell ⟨g,i,none⟩ u).heap[g]? = some (.cells (cs.setIfInBounds i u) t fr):=by
 simp [World.setCell,Array.getElem?_modify,h]
theorem JY {w:World} {g:Nat} {t:TypeId} {lo hi:Nat} {cs:Array Value} (h:w.heap[g]? = some (.cells cs t (lo,hi))) (i:Nat) (hi:i<lo):w.frozen? ⟨g,i,none⟩=false:=by
 simp [World.frozen?,h]
 omega
def DY (w':World) (g m:Nat) (xs:List Int):Prop:=∃ cur,w'.heap[g]? = some (.cells cur 5 (m,m+1))∧xs.length≤m∧∀ j,j<xs.length→cur[j]? = some (.int .u8 (xs.getD j 0))
theorem CA {w':World} {g m:Nat} {xs:List Int} (h:DY w' g m xs) (j:Nat) (hj:j<xs.length):w'.cell? ⟨g,j,none⟩=some (.int .u8 (xs.getD j 0))∧w'.frozen? ⟨g,j,none⟩=false:=by
 obtain ⟨cur,h1,h2,h3⟩:=h
 exact ⟨(cell_of_row w' g j cur _ _ h1).trans (h3 j hj),JY h1 j (by omega)⟩
theorem DZ {w':World} {g m:Nat} {xs:List Int} (h:DY w' g m xs) (j:Nat) (v:Int):DY (w'.setCell ⟨g,j,none⟩ (.int .u8 v)) g m (xs.set j v):=by
 obtain ⟨cur,h1,h2,h3⟩:=h
 refine ⟨_,RS h1 j _,by rw [List.length_set];exact h2,fun i hi=>?_⟩
 rw [List.length_set] at hi
 rw [Array.getElem?_setIfInBounds]
 by_cases e:j=i
 ·subst e
  have:j<cur.size:=by
   have:=h3 j hi
   rcases Nat.lt_or_ge j cur.size with h|h
   ·exact h
   ·rw [Array.getElem?_eq_none h] at this;cases this
  rw [if_pos rfl,if_pos this]
  simp [List.getD_eq_getElem?_getD,hi]
 ·rw [if_neg e,h3 i hi]
  simp [List.getD_eq_getElem?_getD,e]
theorem UD (w:World) (s:ByteArray):DY (Lib.bytesWorld w 5 s) w.heap.size (Lib.bytesCells w 5 s).size (uK s):=by
 refine ⟨_,Lib.bytesWorld_at_new w _ s,?_,fun j hj=>?_⟩
 ·rw [vA]
  unfold Lib.bytesCells
  rw [Array.size_append,Array.size_map]
  exact Nat.le_add_right _ _
 ·rw [vA] at hj
  have hj':j<s.data.size:=hj
  unfold Lib.bytesCells
  rw [Array.getElem?_append_left (by simpa using hj')]
  rw [Array.getElem?_map,Array.getElem?_eq_getElem hj',Option.map_some]
  simp only [uK,List.getD_eq_getElem?_getD,List.getElem?_map,Array.getElem?_toList,Array.getElem?_eq_getElem hj',Option.map_some,Option.getD_some]
theorem OY (w:World) (s:ByteArray):Below w.heap.size w (Lib.bytesWorld w 5 s):=Lib.bytesWorld_below w 5 s
theorem OZ (A B:List Int) (j:Nat) (h:A.length=j) (hB:B≠[]):(A++B).getD j 0=B.getD 0 0:=by
 subst h
 rw [List.getD_eq_getElem?_getD,List.getElem?_append_right (Nat.le_refl _),Nat.sub_self,List.getD_eq_getElem?_getD]
set_option maxHeartbeats 8000000 in
set_option maxRecDepth 100000 in
theorem wM (a0:ByteArray) (r:ByteArray) (w:World) (h:impl_opposite.f a0=some r) :
  Calls Tryz.prog 122 #[.string a0] w fun e w'=>e=.returned (.string r)∧Below w.heap.size w w':=by
 unfold impl_opposite.f at h
 by_cases hb:a0.size<4611686018427387904
 case neg=>rw [if_neg hb] at h;cases h
 rw [if_pos hb] at h
 obtain rfl:=Option.some.inj h
 clear h
 have hcv:=Lib.run_convert_string_bytes (P:=Tryz.prog) w 9 22 5 a0 Tryz.underlying9 Tryz.underlying22 Tryz.underlying5
 have HR:=aE (UD w a0)
 have HB:=aE (OY w a0)
 have HS:=aE hb
 have HL:=aE (vA a0)
 clear hb
 go_enter Tryz.func122,Tryz.ntmps122
 go_wp2
 clear hcv
 generalize Lib.bytesWorld w 5 a0=w1 at HR HB ⊢
 obtain ⟨m,hm⟩:∃ m,(Lib.bytesCells w 5 a0).size=m:=⟨_,rfl⟩
 rw [hm] at HR
 clear hm
 generalize grownCap w a0.size 0 5=cap
 obtain ⟨g1,hg1⟩:∃ g1,w.heap.size=g1:=⟨_,rfl⟩
 have HG:=aE hg1
 rw [hg1] at HR ⊢
 clear hg1
 go_loopg [4,5,10,16,21] a0.size (fun gg v4 v5 v10 v16 v21 w'=>∃ (x:Int) (ix:Nat) (xs:List Int),v10=.int .i64 x∧Aside0 (x=(ix:Int))∧Aside0 (gg+ix=a0.size)∧Aside0 (xs=((uK a0).take ix).map rB++(uK a0).drop ix)∧Aside0 (DY w' g1 m xs)∧Aside0 (Below w.heap.size w w'))
 case atStart=>exact ⟨0,0,uK a0,rfl,⟨rfl⟩,⟨rfl⟩,⟨by simp⟩,HR,HB⟩
 case round =>
  clear HR HB
  obtain ⟨x,ix,xs,rfl,HX,HGG,HXS,HR,HB⟩:=hrel
  by_cases c:x<(a0.size:Int)
  ·have c0:decide (x<(a0.size:Int))=true:=decide_eq_true c
   have hix:ix<a0.size:=by have:=HX.out;omega
   have hlen:xs.length=a0.size:=by rw [HXS.out];simp [HL.out];omega
   have hxn:x.toNat=ix:=by have:=HX.out;omega
   have p1:(0≤x)=True:=eq_true (by have:=HX.out;omega)
   have q1:(x<(a0.size:Int))=True:=eq_true c
   obtain ⟨hx0,hf0⟩:=CA HR.out x.toNat (by omega)
   have hv:xs.getD x.toNat 0=(uK a0).getD ix 0:=by
    rw [HXS.out,hxn,OZ _ _ ix (by simp [HL.out];omega) (by intro e;have:=congrArg List.length e;simp only [List.length_drop,HL.out,List.length_nil] at this;omega)]
    simp [List.getD_eq_getElem?_getD]
   have hstep:((uK a0).take (ix+1)).map rB++(uK a0).drop (ix+1)=xs.set x.toNat (rB ((uK a0).getD ix 0)):=by
    have hl:ix<(uK a0).length:=by rw [HL.out];exact hix
    rw [HXS.out,hxn,List.take_add_one,List.getElem?_eq_getElem hl,List.map_append,List.set_append_right _ _ (by simp;omega),List.drop_eq_getElem_cons hl]
    simp [List.getD_eq_getElem?_getD,hl,Nat.min_eq_left (Nat.le_of_lt hl)]
    rw [List.drop_eq_getElem_cons hl]
    rfl
   have hsame:rB ((uK a0).getD ix 0)=(uK a0).getD ix 0→xs.set x.toNat (rB ((uK a0).getD ix 0))=xs:=by
    intro e
    rw [e,← hv]
    apply List.ext_getElem?
    intro q
    rw [List.getElem?_set]
    by_cases e:x.toNat=q
    ·subst e;simp [List.getD_eq_getElem?_getD,show x.toNat<xs.length by omega]
    ·rw [if_neg e]
   rw [hv] at hx0
   generalize (uK a0).getD ix 0=v at hx0 hstep hsame
   have HST:=aE hstep
   have HSM:=aE hsame
   have HIX:=aE hix
   have HW:wrap64 (x+1)=((ix+1:Nat):Int):=by have:=HX.out;have:=HS.out;unfold wrap64;omega
   have HW:=aE HW
   clear c hix hlen hxn hv hstep hsame
   by_cases v1:v=43
   ·have d1:decide (v=43)=true:=decide_eq_true v1
    have d1b:(v==43)=true:=beq_iff_eq.2 v1
    have HF:=aE (show rB v=45 by unfold rB;rw [if_pos v1])
    clear v1
    go_wp2
    go_roundg (gk-1)
    case measure=>have:=HGG.out;have:=HIX.out;omega
    case rel=>exact ⟨wrap64 (x+1),ix+1,xs.set x.toNat 45,by first|rfl|(simp;done),HW,⟨by have:=HGG.out;have:=HIX.out;omega⟩,⟨by rw [HST.out,HF.out]⟩,⟨DZ HR.out _ _⟩,⟨cE HB.out (by rw [HG.out];exact Nat.le_refl _)⟩⟩
   ·have d1:decide (v=43)=false:=decide_eq_false v1
    have d1b:(v==43)=false:=beq_eq_false_iff_ne.2 v1
    by_cases v2:v=45
    ·have d2:decide (v=45)=true:=decide_eq_true v2
     have d2b:(v==45)=true:=beq_iff_eq.2 v2
     have HF:=aE (show rB v=43 by unfold rB;rw [if_neg v1,if_pos v2])
     clear v1 v2
     go_wp2
     go_roundg (gk-1)
     case measure=>have:=HGG.out;have:=HIX.out;omega
     case rel=>exact ⟨wrap64 (x+1),ix+1,xs.set x.toNat 43,by first|rfl|(simp;done),HW,⟨by have:=HGG.out;have:=HIX.out;omega⟩,⟨by rw [HST.out,HF.out]⟩,⟨DZ HR.out _ _⟩,⟨cE HB.out (by rw [HG.out];exact Nat.le_refl _)⟩⟩
    ·have d2:decide (v=45)=false:=decide_eq_false v2
     have d2b:(v==45)=false:=beq_eq_false_iff_ne.2 v2
     have HF:=aE (show rB v=v by unfold rB;rw [if_neg v1,if_neg v2])
     clear v1 v2
     go_wp2
     go_roundg (gk-1)
     case measure=>have:=HGG.out;have:=HIX.out;omega
     case rel=>exact ⟨wrap64 (x+1),ix+1,xs,by first|rfl|(simp;done),HW,⟨by have:=HGG.out;have:=HIX.out;omega⟩,⟨by rw [HST.out,HSM.out HF.out]⟩,HR,HB⟩
  ·have c0:decide (x<(a0.size:Int))=false:=decide_eq_false c
   have HE:=aE (show ix=a0.size by have:=HX.out;have:=HGG.out;omega)
   clear c
   have hcv:(convert 22 9 (.slice (some ⟨g1,0,none⟩) a0.size cap)).run Tryz.prog wr=.ok (.string (rC a0)) wr:=by
    have hl:(a0.data.toList.map JX).length=a0.size:=by rw [List.length_map,Array.length_toList];rfl
    have:=run_convert_bytes_back (P:=Tryz.prog) wr 22 9 5 ⟨g1,0,none⟩ cap (a0.data.toList.map JX) Tryz.underlying22 Tryz.underlying5 Tryz.underlying9 (fun j hj=>by
     have hxs:xs=(uK a0).map rB:=by rw [HXS.out,HE.out,List.take_of_length_le (by rw [HL.out];exact Nat.le_refl _),List.drop_of_length_le (by rw [HL.out];exact Nat.le_refl _),List.append_nil]
     have hj2:j<a0.size:=by omega
     have hj3:j<a0.data.size:=hj2
     obtain ⟨h1,_⟩:=CA HR.out j (by rw [hxs,List.length_map,HL.out];exact hj2)
     rw [show (⟨g1,0,none⟩:Addr).add j=⟨g1,j,none⟩ by (simp [Addr.add];omega),h1,hxs]
     simp only [uK,List.getD_eq_getElem?_getD,List.getElem?_map,Array.getElem?_toList,Array.getElem?_eq_getElem hj3,Option.map_some,Option.getD_some,List.getElem_map,Array.getElem_toList,UC])
    rw [hl] at this
    exact this
   go_wp2
   go_ret
   exact ⟨rfl,HB.out⟩
/-! ### impl_chi_circuit: function 121 -/
def lV (v:Int):Int:=if v > 0 then 43 else 45
def RT (T:Nat→Int) (a b c d:Int):List Int:=[T (nB b c d),wrap64 (-T (nB a c d)),T (nB a b d),wrap64 (-T (nB a b c))]
def JZ (T:Nat→Int) (a b c d:Int):ByteArray:=if T (nB b c d) > 0 then strOfNums ((RT T a b c d).map lV) else rC (strOfNums ((RT T a b c d).map lV))
def in7 (a:Int):Prop:=0≤a∧a<7
instance (a:Int):Decidable (in7 a):=inferInstanceAs (Decidable (_∧_))
def impl_chi_circuit.f (s0_0:Int) (s0_1:Nat→Int) (a1 a2 a3 a4:Int):Option (ByteArray×Int×(Nat→Int)):=if in7 a1∧in7 a2∧in7 a3∧in7 a4 then some (JZ s0_1 a1 a2 a3 a4,s0_0,s0_1) else none
theorem OH {P:Program} {ops:Array Oper} {o:Oper} {a:Act} {Q:Exit→Act→World→Prop} {W W1:World} {Kc:Act→World→Prop} {N:Tmp} {v:Value} (hN:o.dst=some N) (hw:Region.wanted o (yielded ops a.tmps)=true) (hrun:(execOp a.eval o).run P W=.ok (.value v) W1)
  (h:Kc (a.put (some N) v) W1):if Region.wanted o (yielded ops a.tmps)=true then Oper.wp P o a W Kc Q else Kc (a.put (some N) undef) W:=by
 rw [if_pos hw]
 unfold Oper.wp
 rw [hrun]
 show Kc (a.put o.dst v) _
 rw [hN]
 exact h
def RU:Bool×List (List Nat×List Nat):=(true,[([],[]),([],[]),([],[]),([],[]),([0],[0]),([4],[4]),([5,1],[1,5]),([6,2],[2,6]),([7,3],[3,7]),([8],[8]),([],[]),([],[]),([],[]),([],[]),([10],[10]),([14],[14]),([15,11],[11,15]),([16,12],[12,16]),([17,13],[13,17]),([18],[18]),([19],[19]),([],[]),([],[]),([],[]),([],[]),([21],[21]),([25],[25]),([26,22],[22,26]),([27,23],[23,27]),([28,24],[24,28]),([29],[29]),([],[]),([],[]),([],[]),([],[]),([31],[31]),([35],[35]),([36,32],[32,36]),([37,33],[33,37]),([38,34],[34,38]),([39],[39]),([40],[40]),([9,20,30,41],[9,20,30,41]),([42],[42]),([],[])])
def WB:List Nat:=[0,0,0,0,1,17,51,119,255,511,0,0,0,0,1024,17408,52224,121856,261120,523264,1047552,0,0,0,0,2097152,35651584,106954752,249561088,534773760,1071644672,0,0,0,0,2147483648,36507222016,109521666048,255550554112,547608330240,1097364144128,2196875771904,4398046511103,8796093022207,0]
theorem PA:iQ .any (iS Tryz.f121 2)=RU:=by kernel_rfl
theorem MF:dM RU.2 WB=true:=by kernel_rfl
theorem wE {w w1:World} {p:Addr} {v:Value} (hb:Below w.heap.size w w1) (h:w.cell? p=some v):w1.cell? p=some v:=(hb.cell (World.block_lt_of_cell? _ _ h)).trans h
set_option maxHeartbeats 8000000 in
set_option maxRecDepth 100000 in
theorem tA (g:Nat) (s0_0:Int) (s0_1:Nat→Int) (a1 a2 a3 a4:Int) (r1:ByteArray) (r2:Int) (r3:Nat→Int) (w0 w:World) (hI:cS w0 w g s0_0 s0_1) (hB:Below w0.heap.size w0 w) (h:impl_chi_circuit.f s0_0 s0_1 a1 a2 a3 a4=some (r1,r2,r3)) :
  Calls Tryz.prog 121 #[.pointer (some ⟨g,0,none⟩),.int .i64 a1,.int .i64 a2,.int .i64 a3,.int .i64 a4] w fun e w'=>e=.returned (.string r1)∧cS w0 w' g r2 r3∧Below w0.heap.size w0 w'∧cM w w' g none:=by
 unfold impl_chi_circuit.f at h
 by_cases hc:in7 a1∧in7 a2∧in7 a3∧in7 a4
 case neg=>rw [if_neg hc] at h;cases h
 rw [if_pos hc] at h
 simp only [Option.some.injEq,Prod.mk.injEq] at h
 obtain ⟨rfl,rfl,rfl⟩:=h
 obtain ⟨h1,h2,h3,h4⟩:=hc
 suffices hs:Calls Tryz.prog 121 #[.pointer (some ⟨g,0,none⟩),.int .i64 a1,.int .i64 a2,.int .i64 a3,.int .i64 a4] w fun e w'=>e=.returned (.string (JZ s0_1 a1 a2 a3 a4))∧Below w.heap.size w w' by
  refine hs.mono ?_
  rintro e w' ⟨he,hb⟩
  exact ⟨he,hI.below hb,aD hB hb,bZ hb g none⟩
 have hat:=NK hI
 have k0:=hat a2 a3 a4 h2 h3 h4
 have k1:=hat a1 a3 a4 h1 h3 h4
 have k2:=hat a1 a2 a4 h1 h2 h4
 have k3:=hat a1 a2 a3 h1 h2 h3
 have hr:JZ s0_1 a1 a2 a3 a4=if s0_1 (a2.toNat*49+a3.toNat*7+a4.toNat) > 0 then strOfNums ([s0_1 (a2.toNat*49+a3.toNat*7+a4.toNat),wrap64 (-s0_1 (a1.toNat*49+a3.toNat*7+a4.toNat)),s0_1 (a1.toNat*49+a2.toNat*7+a4.toNat),wrap64 (-s0_1 (a1.toNat*49+a2.toNat*7+a3.toNat))].map lV) else rC (strOfNums ([s0_1 (a2.toNat*49+a3.toNat*7+a4.toNat),wrap64 (-s0_1 (a1.toNat*49+a3.toNat*7+a4.toNat)),s0_1 (a1.toNat*49+a2.toNat*7+a4.toNat),wrap64 (-s0_1 (a1.toNat*49+a2.toNat*7+a3.toNat))].map lV)):=rfl
 rw [hr]
 generalize s0_1 (a2.toNat*49+a3.toNat*7+a4.toNat)=v0 at k0 ⊢
 generalize s0_1 (a1.toNat*49+a3.toNat*7+a4.toNat)=v1 at k1 ⊢
 generalize s0_1 (a1.toNat*49+a2.toNat*7+a4.toNat)=v2 at k2 ⊢
 generalize s0_1 (a1.toNat*49+a2.toNat*7+a3.toNat)=v3 at k3 ⊢
 obtain ⟨R,hR⟩:∃ R,(if v0 > 0 then strOfNums ([v0,wrap64 (-v1),v2,wrap64 (-v3)].map lV) else rC (strOfNums ([v0,wrap64 (-v1),v2,wrap64 (-v3)].map lV)))=R:=⟨_,rfl⟩
 rw [hR]
 have HRES:=aE hR
 clear hR
 have I58a:=yY g a1 h1
 have I58b:=yY g a2 h2
 have I57b:=yZ g a2 h2
 have I57c:=yZ g a3 h3
 have I56c:=yH g a3 h3
 have I56d:=yH g a4 h4
 have HK0:=aE k0
 have HK1:=aE k1
 have HK2:=aE k2
 have HK3:=aE k3
 have HB:=aE (Below.refl w.heap.size w)
 clear hat k0 k1 k2 k3 hI hB hr h1 h2 h3 h4
 go_enter Tryz.func121,Tryz.ntmps121
 go_wp2_with fail
 refine dA (n:=45) (S:=fun w'=>w'.cell? ⟨g,1+a2.toNat*49+a3.toNat*7+a4.toNat,none⟩=some (.int .i64 v0)∧w'.cell? ⟨g,1+a1.toNat*49+a3.toNat*7+a4.toNat,none⟩=some (.int .i64 v1)∧w'.cell? ⟨g,1+a1.toNat*49+a2.toNat*7+a4.toNat,none⟩=some (.int .i64 v2)∧w'.cell? ⟨g,1+a1.toNat*49+a2.toNat*7+a3.toNat,none⟩=some (.int .i64 v3)) (ds:=[]) (bm 45 0) (by kernel_rfl) rfl rfl ⟨HK0.out,HK1.out,HK2.out,HK3.out⟩ (fun hHeld=>?_);refine bO PA MF (fun HT_ HW_=>?_)
 have HB:=aE (jK HB.out)
 have HK0:=aE (show w.drew.cell? ⟨g,1+a2.toNat*49+a3.toNat*7+a4.toNat,none⟩=some (.int .i64 v0) from HK0.out)
 have HK1:=aE (show w.drew.cell? ⟨g,1+a1.toNat*49+a3.toNat*7+a4.toNat,none⟩=some (.int .i64 v1) from HK1.out)
 have HK2:=aE (show w.drew.cell? ⟨g,1+a1.toNat*49+a2.toNat*7+a4.toNat,none⟩=some (.int .i64 v2) from HK2.out)
 have HK3:=aE (show w.drew.cell? ⟨g,1+a1.toNat*49+a2.toNat*7+a3.toNat,none⟩=some (.int .i64 v3) from HK3.out)
 generalize w.drew=wB at HB HK0 HK1 HK2 HK3 hHeld ⊢
 refine bU ((0,0,14,1)::(0,1,15,3)::(0,2,16,7)::(0,3,17,15)::(0,4,18,31)::(0,5,19,63)::(0,6,20,127)::(0,7,21,255)::(0,8,22,511)::(2,9,23,1023)::(0,10,24,2047)::(0,11,25,4095)::(0,12,26,8191)::(0,13,27,16383)::(0,14,28,32767)::(0,15,29,65535)::(0,16,30,131071)::(0,17,31,262143)::(0,18,32,524287)::(2,19,33,1048575)::(0,20,34,2097151)::(0,21,35,4194303)::(0,22,36,8388607)::(0,23,37,16777215)::(0,24,38,33554431)::(0,25,39,67108863)::(0,26,40,134217727)::(0,27,41,268435455)::(0,28,42,536870911)::(0,29,43,1073741823)::(2,30,44,2147483647)::(0,31,45,4294967295)::(0,32,46,8589934591)::(0,33,47,17179869183)::(0,34,48,34359738367)::(0,35,49,68719476735)::(0,36,50,137438953471)::(0,37,51,274877906943)::(0,38,52,549755813887)::(0,39,53,1099511627775)::(2,40,54,2199023255551)::(0,41,55,4398046511103)::(0,44,58,21990232555519)::[]) ?_
 iterate 43 (first|(refine mD ?_ ?_ rfl rfl (lN HT_.out (by kernel_rfl)) (fun _ _ _ h=>h) (Or.inl ⟨by rfl,?_⟩) ?_ ?_;rotate_left 2;(· intro w';go_simp;with_reducible rfl);(· simp only [Act.put,List.setIfInBounds_toArray,List.set_cons_zero,List.set_cons_succ,cC,dW];rfl))|(refine AP ?_ ?_ rfl rfl (uY HT_.out HW_.out (by kernel_rfl)) (fun _ _ _ h=>h) (Or.inl ⟨by rfl,?_⟩) hHeld ?_ ?_;rotate_left 2;(· rintro w' ⟨s0,s1,s2,s3⟩;go_simp;with_reducible rfl);(· simp only [Act.put,List.setIfInBounds_toArray,List.set_cons_zero,List.set_cons_succ,cC,dW];rfl)))
 refine aU ?_
 refine dQ (i:=42) (N:=some 56) (bm 45 26388279066623) rfl rfl (bJ HT_.out (by kernel_rfl)) (by decide) (fun K hK=>?_)
 refine OH (v:=.slice (some ⟨wB.heap.size,0,none⟩) 4 4) (W1:=wB.alloc (.cells #[.int .i64 v0,.int .i64 (wrap64 (-v1)),.int .i64 v2,.int .i64 (wrap64 (-v3))] 3 (0,0))) rfl (by rfl) (by first|(go_simp;done)|(go_simp;rfl)) ?_
 have hba:=mH (Below.refl wB.heap.size wB) (.cells #[.int .i64 v0,.int .i64 (wrap64 (-v1)),.int .i64 v2,.int .i64 (wrap64 (-v3))] 3 (0,0))
 have BKN:=aE (yN wB (.cells #[.int .i64 v0,.int .i64 (wrap64 (-v1)),.int .i64 v2,.int .i64 (wrap64 (-v3))] 3 (0,0)))
 have HB:=aE (aD HB.out hba)
 have hs_:(wB.alloc (.cells #[.int .i64 v0,.int .i64 (wrap64 (-v1)),.int .i64 v2,.int .i64 (wrap64 (-v3))] 3 (0,0))).cell? ⟨g,1+a2.toNat*49+a3.toNat*7+a4.toNat,none⟩=some (.int .i64 v0)∧(wB.alloc (.cells #[.int .i64 v0,.int .i64 (wrap64 (-v1)),.int .i64 v2,.int .i64 (wrap64 (-v3))] 3 (0,0))).cell? ⟨g,1+a1.toNat*49+a3.toNat*7+a4.toNat,none⟩=some (.int .i64 v1)∧(wB.alloc (.cells #[.int .i64 v0,.int .i64 (wrap64 (-v1)),.int .i64 v2,.int .i64 (wrap64 (-v3))] 3 (0,0))).cell? ⟨g,1+a1.toNat*49+a2.toNat*7+a4.toNat,none⟩=some (.int .i64 v2)∧(wB.alloc (.cells #[.int .i64 v0,.int .i64 (wrap64 (-v1)),.int .i64 v2,.int .i64 (wrap64 (-v3))] 3 (0,0))).cell? ⟨g,1+a1.toNat*49+a2.toNat*7+a3.toNat,none⟩=some (.int .i64 v3):=⟨wE hba HK0.out,wE hba HK1.out,wE hba HK2.out,wE hba HK3.out⟩
 refine hK.out _ _ hs_ (fun hHeld=>?_)
 clear hK K hs_ hba HK0 HK1 HK2 HK3
 obtain ⟨gN,hgN⟩:∃ gN,wB.heap.size=gN:=⟨_,rfl⟩
 rw [hgN] at BKN ⊢
 generalize wB.alloc (.cells #[.int .i64 v0,.int .i64 (wrap64 (-v1)),.int .i64 v2,.int .i64 (wrap64 (-v3))] 3 (0,0))=wC at HB BKN hHeld ⊢
 clear hgN
 refine bU ((0,43,57,35184372088831)::[]) ?_
 iterate 1 (refine mD ?_ ?_ rfl rfl (lN HT_.out (by kernel_rfl)) (fun _ _ _ h=>h) (Or.inl ⟨by rfl,?_⟩) ?_ ?_;rotate_left 2;(· intro w';go_simp;with_reducible rfl);(· simp only [Act.put,List.setIfInBounds_toArray,List.set_cons_zero,List.set_cons_succ,cC,dW];rfl))
 refine aU ?_
 refine eN (cK HT_.out (by kernel_rfl)) ?_
 clear HT_ HW_ hHeld I58a I58b I57b I57c I56c I56d
 go_wp2
 go_loopg [11,58] 4 (fun kq v11 v58 w'=>∃ (x:Int) (ix:Nat) (tx:List Int),v58=.int .i64 x∧Aside0 (x=(ix:Int))∧Aside0 (kq+ix=4)∧Aside0 (tx=([v0,wrap64 (-v1),v2,wrap64 (-v3)].take ix).map lV)∧Aside0 (w'.heap[gN]? = some (.cells #[.int .i64 v0,.int .i64 (wrap64 (-v1)),.int .i64 v2,.int .i64 (wrap64 (-v3))] 3 (0,0)))∧Aside0 (Kd.R (Kd.int .u8) 5 w' w.heap.size (fun _=>True) v11 tx)∧Aside0 (Below w.heap.size w w'))
 case atStart=>exact ⟨0,0,[],rfl,⟨rfl⟩,⟨rfl⟩,⟨rfl⟩,BKN,⟨Kd.R_nil _ _ _ _ _⟩,HB⟩
 case round =>
  clear BKN HB
  obtain ⟨x,ix,tx,rfl,HX,HK1,HT,BKN,HO_11,HB⟩:=hrel
  by_cases c5:x<4
  ·have c5b0:decide (x<4)=true:=decide_eq_true c5
   have hx:=HX.out
   have hix:ix<4:=by omega
   have hxn:x.toNat=ix:=by omega
   have p1:(0≤x)=True:=eq_true (by omega)
   have q1:(x<4)=True:=eq_true c5
   have hcs:∀ q:Nat,q<4→(#[.int .i64 v0,.int .i64 (wrap64 (-v1)),.int .i64 v2,.int .i64 (wrap64 (-v3))]:Array Value)[q]? = some (.int .i64 ([v0,wrap64 (-v1),v2,wrap64 (-v3)].getD q 0)):=by
    intro q hq
    have:q=0∨q=1∨q=2∨q=3:=by omega
    rcases this with rfl|rfl|rfl|rfl <;> rfl
   have hst:∀ q:Nat,q<4→([v0,wrap64 (-v1),v2,wrap64 (-v3)].take (q+1)).map lV=([v0,wrap64 (-v1),v2,wrap64 (-v3)].take q).map lV++[lV ([v0,wrap64 (-v1),v2,wrap64 (-v3)].getD q 0)]:=by
    intro q hq
    have:q=0∨q=1∨q=2∨q=3:=by omega
    rcases this with rfl|rfl|rfl|rfl <;> rfl
   have hx0:=(bK BKN.out x.toNat).trans (hcs x.toNat (by omega))
   have hf0:=aA BKN.out x.toNat
   have hs1:=hst ix hix
   rw [hxn] at hx0
   generalize ([v0,wrap64 (-v1),v2,wrap64 (-v3)]:List Int).getD ix 0=v at hx0 hs1
   rw [← hxn] at hx0
   have HST:=aE hs1
   have HIX:=aE hix
   have HLT:=aE (show tx.length≤4 by rw [HT.out];simp;omega)
   have HW:wrap64 (x+1)=((ix+1:Nat):Int):=by unfold wrap64;omega
   have HW:=aE HW
   clear c5 hx hix hxn hcs hst hs1
   by_cases cv:v > 0
   ·have HQ:=aE (show lV v=43 by unfold lV;rw [if_pos cv])
    have cvb:decide (0<v)=true:=decide_eq_true cv
    clear cv
    go_wp2_with ((with_reducible refine cT (b:=.append) (xs:=#[.tmp 64,.tmp 65]) rfl ?_);at_builtin;refine Kd.R_append (Kd.int .u8) (w0:=w) w.heap.size rfl (.tmp 64) (.tmp 65) 22 5 (.int .u8 0) 1 rfl Tryz.underlying22 wD rfl (by decide) (by omega) u11 tx 43 [.int .u8 43] (fun _=>True) (fun _=>False) rfl rfl ?aP (fun _ hk=>hk.elim) ?aF ?aO ?aB ?aS ?aL ?_;(case aP=>exact rfl);(case aB=>exact (by repeat (first|(with_reducible first|exact HB.out|apply mH|apply oN|apply jK)|exact HB.out)));(case aF=>exact (fun _ _=>trivial));(case aO=>exact (by (with_reducible repeat (first|apply kD|apply kE|apply gU));exact HO_11.out));(case aS=>exact (aT (by repeat (first|(with_reducible first|exact HB.out|apply mH|apply oN|apply jK)|exact HB.out))));(case aL=>have h1:=HLT.out;omega);intro v102 w7 ho hb hg hat;have n1_:=aE (kL (g:=gN) (o:=.cells #[.int .i64 v0,.int .i64 (wrap64 (-v1)),.int .i64 v2,.int .i64 (wrap64 (-v3))] 3 (0,0)) (by (with_reducible repeat (first|refine aM ?_ _|refine aI ?_|refine aK ?_ _));exact BKN.out) hg (Kd.R_ne HO_11.out BKN.out (by decide)));have n2_:=aE (hb);have n3_:=aE (ho);clear BKN;clear HB;clear HO_11;have BKN:=n1_;have HB:=n2_;have HO_11:=n3_;clear n1_ n2_ n3_;clear ho hb hg hat)
    go_roundg (gk-1)
    case measure=>have:=HK1.out;have:=HIX.out;omega
    case rel=>exact ⟨wrap64 (x+1),ix+1,tx++[43],(by first|rfl|(simp;done)|(rw [HW.out];first|rfl|(simp;done))),⟨HW.out⟩,⟨by have:=HK1.out;have:=HIX.out;omega⟩,⟨by rw [HST.out,HT.out,HQ.out]⟩,⟨BKN.out⟩,⟨HO_11.out⟩,⟨HB.out⟩⟩
   ·have HQ:=aE (show lV v=45 by unfold lV;rw [if_neg cv])
    have cvb:decide (0<v)=false:=decide_eq_false cv
    clear cv
    go_wp2_with ((with_reducible refine cT (b:=.append) (xs:=#[.tmp 67,.tmp 68]) rfl ?_);at_builtin;refine Kd.R_append (Kd.int .u8) (w0:=w) w.heap.size rfl (.tmp 67) (.tmp 68) 22 5 (.int .u8 0) 1 rfl Tryz.underlying22 wD rfl (by decide) (by omega) u11 tx 45 [.int .u8 45] (fun _=>True) (fun _=>False) rfl rfl ?aP (fun _ hk=>hk.elim) ?aF ?aO ?aB ?aS ?aL ?_;(case aP=>exact rfl);(case aB=>exact (by repeat (first|(with_reducible first|exact HB.out|apply mH|apply oN|apply jK)|exact HB.out)));(case aF=>exact (fun _ _=>trivial));(case aO=>exact (by (with_reducible repeat (first|apply kD|apply kE|apply gU));exact HO_11.out));(case aS=>exact (aT (by repeat (first|(with_reducible first|exact HB.out|apply mH|apply oN|apply jK)|exact HB.out))));(case aL=>have h1:=HLT.out;omega);intro v102 w7 ho hb hg hat;have n1_:=aE (kL (g:=gN) (o:=.cells #[.int .i64 v0,.int .i64 (wrap64 (-v1)),.int .i64 v2,.int .i64 (wrap64 (-v3))] 3 (0,0)) (by (with_reducible repeat (first|refine aM ?_ _|refine aI ?_|refine aK ?_ _));exact BKN.out) hg (Kd.R_ne HO_11.out BKN.out (by decide)));have n2_:=aE (hb);have n3_:=aE (ho);clear BKN;clear HB;clear HO_11;have BKN:=n1_;have HB:=n2_;have HO_11:=n3_;clear n1_ n2_ n3_;clear ho hb hg hat)
    go_roundg (gk-1)
    case measure=>have:=HK1.out;have:=HIX.out;omega
    case rel=>exact ⟨wrap64 (x+1),ix+1,tx++[45],(by first|rfl|(simp;done)|(rw [HW.out];first|rfl|(simp;done))),⟨HW.out⟩,⟨by have:=HK1.out;have:=HIX.out;omega⟩,⟨by rw [HST.out,HT.out,HQ.out]⟩,⟨BKN.out⟩,⟨HO_11.out⟩,⟨HB.out⟩⟩
  ·have c5b0:decide (x<4)=false:=decide_eq_false c5
   have hE:ix=4:=by have:=HK1.out;have:=HX.out;omega
   have htx:tx=[v0,wrap64 (-v1),v2,wrap64 (-v3)].map lV:=by rw [HT.out,hE];rfl
   have hcv:∀ w':World,Kd.R (Kd.int .u8) 5 w' w.heap.size (fun _=>True) u11 tx→(convert 22 9 u11).run Tryz.prog w'=.ok (.string (strOfNums tx)) w':=fun w' h=>DJ (P:=Tryz.prog) Tryz.underlying22 Tryz.underlying5 Tryz.underlying9 (Kd.own_of_R h)
   have hcv1:=hcv _ HO_11.out
   obtain ⟨Ao,co,eo⟩:=Kd.R_slice HO_11.out
   subst eo
   have hl4:tx.length=4:=by rw [htx];rfl
   obtain ⟨ad,e0,hx0⟩:=Kd.at_int (Kd.R_reads' HO_11.out).2.2 0 (Int.le_refl 0) (by rw [hl4];decide)
   cases e0
   have q1:((0:Int)<(tx.length:Int))=True:=eq_true (by rw [hl4];decide)
   have q2:(0<tx.length)=True:=eq_true (by rw [hl4];decide)
   have hop:impl_opposite.f (strOfNums tx)=some (rC (strOfNums tx)):=by
    unfold impl_opposite.f
    rw [if_pos (by rw [htx];simp [strOfNums,ByteArray.size])]
   have HOP:=aE hop
   have HTX:=aE htx
   have hrd:rd tx 0=lV v0:=by rw [htx];rfl
   rw [hrd,show ad.add (Int.toNat 0)=ad by simp [Addr.add]] at hx0
   clear c5 hE htx hl4 hcv hop hrd HT HK1 HX
   by_cases cv:v0 > 0
   ·rw [show lV v0=43 by unfold lV;rw [if_pos cv]] at hx0
    have HQ:=aE (show R=strOfNums tx by rw [← HRES.out,if_pos cv,HTX.out])
    clear cv
    go_wp2
    first|go_ret|go_ret2|go_end0
    exact ⟨by rw [HQ.out];rfl,HB.out⟩
   ·rw [show lV v0=45 by unfold lV;rw [if_neg cv]] at hx0
    have HQ:=aE (show R=rC (strOfNums tx) by rw [← HRES.out,if_neg cv,HTX.out])
    clear cv
    go_wp2_with (go_at_call 122;refine (wM (strOfNums tx) _ _ HOP.out).mono ?_;rintro e w9 ⟨rfl,hb9⟩)
    first|go_ret|go_ret2|go_end0
    exact ⟨by rw [HQ.out];rfl,aD HB.out hb9⟩
/-! ### impl_chi_split: function 119 -/
def dD:Nat→ByteArray→Int→Int→List Int→Int→Int→Int→(Nat→Int)→Option (Int×Int×Int×(Nat→Int))
 | 0,_,_,_,_,_,_,_,_=>none
 | k+1,x12,x13,x14,x27,x28,x29,x1000,x1001=>if x29<x28 then (if 0≤x29 then (if x29<(x27.length:Int) then (if x29<(x12.size:Int) then (if (bt x12 x29)=43 then (if 0≤(rd x27 x29) then (dD k x12 (Go.bits .or .i64 x13 (kS .i64 1 (rd x27 x29))) x14 x27 x28 (wrap64 (x29+1)) x1000 x1001) else (none)) else (if 0≤(rd x27 x29) then (dD k x12 x13 (Go.bits .or .i64 x14 (kS .i64 1 (rd x27 x29))) x27 x28 (wrap64 (x29+1)) x1000 x1001) else (none))) else (none)) else (none)) else (none)) else (some (x13,x14,x1000,x1001))
def impl_chi_split.f (k:Nat) (s0_0:Int) (s0_1:(Nat→Int)) (a1:Int) (a2:Int) (a3:Int) (a4:Int):Option (Int×Int×Int×(Nat→Int)):=(impl_chi_circuit.f s0_0 s0_1 a1 a2 a3 a4).bind fun bt101=>((some (([a1,a2,a3,a4]:List Int):List Int)).bind fun y104=>(dD k bt101.1 0 0 y104 (y104.length:Int) 0 bt101.2.1 bt101.2.2))
theorem nC:∀ k,(∀ y0 y1 y2 y3 y4 y5 y6 y7,LeO (dD k y0 y1 y2 y3 y4 y5 y6 y7) (dD (k+1) y0 y1 y2 y3 y4 y5 y6 y7))
 | 0=>fun _ _ _ _ _ _ _ _ r h=>by simp [dD] at h
 | k+1=>by
  have ih0:=nC k
  (intros;unfold dD;repeat' (with_reducible first|exact ih0 _ _ _ _ _ _ _ _|exact LeO.refl _|exact LeO.none _|refine jA ?_ ?_|refine LeO.bind ?_ (fun _=>?_)))
theorem impl_chi_split.mono:∀ a0 a1 a2 a3 a4 a5 k,LeO (impl_chi_split.f k a0 a1 a2 a3 a4 a5) (impl_chi_split.f (k+1) a0 a1 a2 a3 a4 a5):=by
 intro a0 a1 a2 a3 a4 a5 k
 have ih0:=nC k
 unfold impl_chi_split.f
 repeat' (with_reducible first|exact ih0 _ _ _ _ _ _ _ _|exact LeO.refl _|exact LeO.none _|refine jA ?_ ?_|refine LeO.bind ?_ (fun _=>?_))
set_option maxHeartbeats 8000000 in
set_option maxRecDepth 100000 in
theorem vB (k:Nat) (g:Nat) (s0_0:Int) (s0_1:(Nat→Int)) (a1:Int) (a2:Int) (a3:Int) (a4:Int) (r1:Int) (r2:Int) (r3:Int) (r4:(Nat→Int)) (w0 w:World) (hI:cS w0 w g s0_0 s0_1) (hB:Below w0.heap.size w0 w) (h:impl_chi_split.f k s0_0 s0_1 a1 a2 a3 a4=some (r1,r2,r3,r4)) :
  Calls Tryz.prog 119 #[.pointer (some ⟨g,0,none⟩),.int .i64 a1,.int .i64 a2,.int .i64 a3,.int .i64 a4] w fun e w'=>e=.returned (.tuple #[.int .i64 r1,.int .i64 r2])∧cS w0 w' g r3 r4∧Below w0.heap.size w0 w'∧cM w w' g none:=by
 have HI0:=aE hI
 have HK:=aE (cM.refl w g none)
 have HL:=aE hB.size
 clear hI
 have HW0:=aE hB.size
 have HB:=aE hB
 clear hB
 unfold impl_chi_split.f at h
 have H:=h
 clear h
 replace H:=eM H
 obtain ⟨⟨t101,t102,t103⟩,A6,H⟩:=H
 try dsimp only at H
 obtain ⟨y104,hy104⟩:∃ y_:List Int,y_=(([a1,a2,a3,a4]:List Int)):=⟨_,rfl⟩
 first|(with_reducible replace H:=oO hy104 H)|(with_reducible replace H:=oP hy104 H)|rw [← hy104] at H
 have Ny104:=aE hy104
 clear hy104
 have H':=aE H
 clear H
 go_enter Tryz.func119,Tryz.ntmps119
 go_wp2_with (first|((with_reducible refine aJ (f:=121) rfl ?_);refine aV (some 22) Tryz.func121 #[.pointer (some ⟨g,0,none⟩),.int .i64 a1,.int .i64 a2,.int .i64 a3,.int .i64 a4] ?_;(with_reducible refine (tA g s0_0 s0_1 a1 a2 a3 a4 t101 t102 t103 w0 _ ?side1 ?side2 A6.out).mono ?_);(case side1=>exact cO HI0);(case side2=>exact gP HB (bS HI0.out));rintro e w7 ⟨rfl,hi,hb,hk⟩;refine ⟨_,rfl,?_⟩;replace HK:=aE (cM.trans (iZ HK) hk (.inl rfl));replace HB:=aE (hb);replace HI0:=aE (hi);(try clear hb);(try clear hk);(try clear hi))|((with_reducible refine aN (N:=27) rfl ?_);refine Kd.R_lit (Kd.int .i64) _ 3 ?hg (N:=27) ?hd (xs:=([a1,a2,a3,a4]:List Int)) (inner:=[.int .i64 a1,.int .i64 a2,.int .i64 a3,.int .i64 a4]) (ok:=fun _=>True) (okp:=fun _=>True) ?hr ?hp (fun _ hk=>hk) trivial (Below.refl _ _) (Nat.le_refl _) (by simp) ?_;(case hd=>rfl);(case hg=>rfl);(case hr=>first|(go_simp;done)|(go_simp;rfl));(case hp=>exact (dG (show Kd.M (Kd.int .i64) _ _ _ a1 [.int .i64 a1] from rfl) (dG (show Kd.M (Kd.int .i64) _ _ _ a2 [.int .i64 a2] from rfl) (dG (show Kd.M (Kd.int .i64) _ _ _ a3 [.int .i64 a3] from rfl) (dG (show Kd.M (Kd.int .i64) _ _ _ a4 [.int .i64 a4] from rfl) (kC.none _ _))))));intro v105 w8 ho9 hb hg_ hnew_;clear hg_ hnew_;(first|rw [← Ny104.out] at ho9|(simp only [Int.reduceToNat] at ho9;rw [← Ny104.out] at ho9));have HO106:=aE (Kd.R_lower ho9 (cR (w:=w) (g:=g) (row:=none) (iZ HK)));replace HK:=aE (cM.trans (iZ HK) (bZ hb g none) (.inl rfl));replace HB:=aE (aD (gP HB (bS HI0.out)) hb);replace HI0:=aE (cS.below (cO HI0) hb);clear hb ho9;obtain ⟨Ao10,co10,eo10⟩:=Kd.R_slice HO106.out;subst eo10))
 go_loopg [13,14,29] k (fun kq v13 v14 v29 w'=>∃ (x13_1:Int) (x14_1:Int) (x29_1:Int),v13=.int .i64 x13_1∧v14=.int .i64 x14_1∧v29=.int .i64 x29_1∧Aside0 (dD kq t101 x13_1 x14_1 y104 (y104.length:Int) x29_1 t102 t103=some (r1,r2,r3,r4))∧Aside0 (kq≤k)∧Aside0 (Kd.R (Kd.int .i64) 3 w' w.heap.size (fun _=>True) (.slice Ao10 y104.length co10) y104)∧Aside0 (cS w0 w' g t102 t103)∧Aside0 (cM w w' g none)∧Aside0 (Below w0.heap.size w0 w'))
 case atStart=>exact ⟨(0),(0),(0),aH,aH,aH,H',⟨Nat.le_refl _⟩,⟨bN HO106⟩,⟨cO HI0⟩,⟨iZ HK⟩,⟨gP HB (bS HI0.out)⟩⟩
 case round =>
  clear H'
  obtain ⟨x13_1,x14_1,x29_1,rfl,rfl,rfl,HA,HK1,HO_27,HI0,HK,HB⟩:=hrel
  cases gk with
  | zero=>exact absurd HA.out (by simp [dD])
  | succ k1 =>
   have H:=HA.out
   clear HA
   simp only [dD] at H
   rcases eV H with ⟨c11b0,H⟩|⟨c11b0,H⟩
   ·obtain ⟨c12b0,H⟩:=cV H
    obtain ⟨c13b0,H⟩:=cV H
    obtain ⟨c14b0,H⟩:=cV H
    rcases jE H with ⟨c16,H⟩|⟨c16,H⟩
    ·have c16b0:((bt t101 x29_1)==43)=true:=beq_iff_eq.mpr c16
     have c16b1:((bt t101 x29_1) != 43)=false:=bne_eq_false_iff_eq.mpr c16
     clear c16
     obtain ⟨c17,H⟩:=gQ H
     have c17b0:=eq_true c17
     have c17b1:=decide_eq_true c17
     clear c17
     obtain ⟨ji18,hji18⟩:∃ j_:Int,(kS .i64 1 (rd y104 x29_1))=j_:=⟨_,rfl⟩
     replace H:(dD k1 t101 (Go.bits .or .i64 x13_1 (ji18)) x14_1 y104 (y104.length:Int) (wrap64 (x29_1+1)) t102 t103)=some (r1,r2,r3,r4):=by first|(rw [hji18] at H;exact H)|(simp only [hji18] at H ⊢;exact H)
     have hji18_:(IntKind.i64.wrap (1*2 ^ min (rd y104 x29_1).toNat 64))=ji18:=hji18
     have hji18z:(rd y104 x29_1)≤64→(IntKind.i64.wrap (1*2 ^ (rd y104 x29_1).toNat))=ji18:=jC hji18
     have hji18u:(IntKind.i64.wrap (2 ^ min (rd y104 x29_1).toNat 64))=ji18:=by have h_:=hji18_;rw [Int.one_mul] at h_;exact h_
     have hji18v:(rd y104 x29_1)≤64→(IntKind.i64.wrap (2 ^ (rd y104 x29_1).toNat))=ji18:=fun hle_=>by have h_:=hji18z hle_;rw [Int.one_mul] at h_;exact h_
     have hji18y:(wrap64 (1*2 ^ min (rd y104 x29_1).toNat 64))=ji18:=(cC _).symm.trans hji18_
     have hji18x:(rd y104 x29_1)≤64→(wrap64 (1*2 ^ (rd y104 x29_1).toNat))=ji18:=fun h_=>(cC _).symm.trans (hji18z h_)
     have H':=aE H
     clear H
     obtain ⟨p107,q107,ad107,e107,hx107_0⟩:=jP (Kd.at_int (Kd.R_reads' HO_27.out).2.2 x29_1)
     cases e107
     have p15:0≤(x29_1:Int):=bI
     have q15:x29_1<(t101.size:Int):=bI
     have hx15:=lK t101 x29_1
     replace p15:=eq_true p15
     replace q15:=eq_true q15
     go_wp2
     go_roundg k1
     case measure=>have:=HK1.out;omega
     case rel=>exact ⟨(Go.bits .or .i64 x13_1 (ji18)),(x14_1),(wrap64 (x29_1+1)),(by first|rfl|(simp;done)|(simp only [← hji18] <;> (first|rfl|simp))|(simp [*];done)),aH,aH,H',⟨by have:=HK1.out;omega⟩,⟨bN HO_27⟩,⟨cO HI0⟩,⟨iZ HK⟩,⟨gP HB (bS HI0.out)⟩⟩
    ·have c16b0:((bt t101 x29_1)==43)=false:=beq_eq_false_iff_ne.mpr c16
     have c16b1:((bt t101 x29_1) != 43)=true:=bne_iff_ne.mpr c16
     obtain ⟨c19,H⟩:=gQ H
     have c19b0:=eq_true c19
     have c19b1:=decide_eq_true c19
     clear c19
     obtain ⟨ji20,hji20⟩:∃ j_:Int,(kS .i64 1 (rd y104 x29_1))=j_:=⟨_,rfl⟩
     replace H:(dD k1 t101 x13_1 (Go.bits .or .i64 x14_1 (ji20)) y104 (y104.length:Int) (wrap64 (x29_1+1)) t102 t103)=some (r1,r2,r3,r4):=by first|(rw [hji20] at H;exact H)|(simp only [hji20] at H ⊢;exact H)
     have hji20_:(IntKind.i64.wrap (1*2 ^ min (rd y104 x29_1).toNat 64))=ji20:=hji20
     have hji20z:(rd y104 x29_1)≤64→(IntKind.i64.wrap (1*2 ^ (rd y104 x29_1).toNat))=ji20:=jC hji20
     have hji20u:(IntKind.i64.wrap (2 ^ min (rd y104 x29_1).toNat 64))=ji20:=by have h_:=hji20_;rw [Int.one_mul] at h_;exact h_
     have hji20v:(rd y104 x29_1)≤64→(IntKind.i64.wrap (2 ^ (rd y104 x29_1).toNat))=ji20:=fun hle_=>by have h_:=hji20z hle_;rw [Int.one_mul] at h_;exact h_
     have hji20y:(wrap64 (1*2 ^ min (rd y104 x29_1).toNat 64))=ji20:=(cC _).symm.trans hji20_
     have hji20x:(rd y104 x29_1)≤64→(wrap64 (1*2 ^ (rd y104 x29_1).toNat))=ji20:=fun h_=>(cC _).symm.trans (hji20z h_)
     have H':=aE H
     clear H
     obtain ⟨p107,q107,ad107,e107,hx107_0⟩:=jP (Kd.at_int (Kd.R_reads' HO_27.out).2.2 x29_1)
     cases e107
     have p15:0≤(x29_1:Int):=bI
     have q15:x29_1<(t101.size:Int):=bI
     have hx15:=lK t101 x29_1
     replace p15:=eq_true p15
     replace q15:=eq_true q15
     go_wp2
     go_roundg k1
     case measure=>have:=HK1.out;omega
     case rel=>exact ⟨(x13_1),(Go.bits .or .i64 x14_1 (ji20)),(wrap64 (x29_1+1)),aH,(by first|rfl|(simp;done)|(simp only [← hji20] <;> (first|rfl|simp))|(simp [*];done)),aH,H',⟨by have:=HK1.out;omega⟩,⟨bN HO_27⟩,⟨cO HI0⟩,⟨iZ HK⟩,⟨gP HB (bS HI0.out)⟩⟩
   ·simp only [Option.some.injEq,Prod.mk.injEq] at H
    obtain ⟨rfl,rfl,rfl,rfl⟩:=H
    go_wp2
    go_ret2
    exact ⟨bP,cO HI0,gP HB (bS HI0.out),iZ HK⟩
/-! ### impl_single: function 120 -/
def iG:Nat→Int→Int→Option (Int)
 | 0,_,_=>none
 | k+1,x0,x3=>if x3<7 then (if 0≤x3 then (if x0=(kS .i64 1 x3) then (some x3) else (iG k x0 (wrap64 (x3+1)))) else (none)) else (some (-1))
def impl_single.f (k:Nat) (a0:Int):Option (Int):=iG k a0 0
theorem qC:∀ k,(∀ y0 y1,LeO (iG k y0 y1) (iG (k+1) y0 y1))
 | 0=>fun _ _ r h=>by simp [iG] at h
 | k+1=>by
  have ih0:=qC k
  (intros;unfold iG;repeat' (with_reducible first|exact ih0 _ _|exact LeO.refl _|exact LeO.none _|refine jA ?_ ?_|refine LeO.bind ?_ (fun _=>?_)))
theorem impl_single.mono:∀ a0 k,LeO (impl_single.f k a0) (impl_single.f (k+1) a0):=by
 intro a0 k
 have ih0:=qC k
 unfold impl_single.f
 repeat' (with_reducible first|exact ih0 _ _|exact LeO.refl _|exact LeO.none _|refine jA ?_ ?_|refine LeO.bind ?_ (fun _=>?_))
set_option maxHeartbeats 8000000 in
set_option maxRecDepth 100000 in
theorem rD (k:Nat) (a0:Int) (r:Int) (w:World) (h:impl_single.f k a0=some r) :
  Calls Tryz.prog 120 #[.int .i64 a0] w fun e w'=>e=.returned (.int .i64 r)∧gH w w':=by
 unfold impl_single.f at h
 have H:=h
 clear h
 have H':=aE H
 clear H
 go_enter Tryz.func120,Tryz.ntmps120
 go_wp2
 go_loopg [3] k (fun kq v3 w'=>∃ (x3_1:Int),v3=.int .i64 x3_1∧Aside0 (iG kq a0 x3_1=some r)∧Aside0 (kq≤k)∧gH w w')
 case atStart=>exact ⟨(0),aH,H',⟨Nat.le_refl _⟩,by repeat (first|exact gH.refl _|apply bF)⟩
 case round =>
  clear H'
  obtain ⟨x3_1,rfl,HA,HK1,⟨m1,rfl⟩⟩:=hrel
  cases gk with
  | zero=>exact absurd HA.out (by simp [iG])
  | succ k1 =>
   have H:=HA.out
   clear HA
   simp only [iG] at H
   rcases eV H with ⟨c2b0,H⟩|⟨c2b0,H⟩
   ·obtain ⟨c3,H⟩:=gQ H
    have c3b0:=eq_true c3
    have c3b1:=decide_eq_true c3
    clear c3
    obtain ⟨ji4,hji4⟩:∃ j_:Int,(kS .i64 1 x3_1)=j_:=⟨_,rfl⟩
    replace H:(if a0=(ji4) then (some x3_1) else (iG k1 a0 (wrap64 (x3_1+1))))=some r:=by first|(rw [hji4] at H;exact H)|(simp only [hji4] at H ⊢;exact H)
    have hji4_:(IntKind.i64.wrap (1*2 ^ min x3_1.toNat 64))=ji4:=hji4
    have hji4z:x3_1≤64→(IntKind.i64.wrap (1*2 ^ x3_1.toNat))=ji4:=jC hji4
    have hji4u:(IntKind.i64.wrap (2 ^ min x3_1.toNat 64))=ji4:=by have h_:=hji4_;rw [Int.one_mul] at h_;exact h_
    have hji4v:x3_1≤64→(IntKind.i64.wrap (2 ^ x3_1.toNat))=ji4:=fun hle_=>by have h_:=hji4z hle_;rw [Int.one_mul] at h_;exact h_
    have hji4y:(wrap64 (1*2 ^ min x3_1.toNat 64))=ji4:=(cC _).symm.trans hji4_
    have hji4x:x3_1≤64→(wrap64 (1*2 ^ x3_1.toNat))=ji4:=fun h_=>(cC _).symm.trans (hji4z h_)
    rcases jE H with ⟨c5,H⟩|⟨c5,H⟩
    ·have c5b0:(a0==(ji4))=true:=beq_iff_eq.mpr c5
     have c5b1:(a0 != (ji4))=false:=bne_eq_false_iff_eq.mpr c5
     clear c5
     obtain rfl:=Option.some.inj H
     go_wp2
     go_ret
     exact ⟨by first|rfl|(simp;done)|(simp only [← hji4] <;> (first|rfl|simp))|(simp [*];done),by repeat (first|exact gH.refl _|apply bF)⟩
    ·have c5b0:(a0==(ji4))=false:=beq_eq_false_iff_ne.mpr c5
     have c5b1:(a0 != (ji4))=true:=bne_iff_ne.mpr c5
     have H':=aE H
     clear H
     go_wp2
     go_roundg k1
     case measure=>have:=HK1.out;omega
     case rel=>exact ⟨(wrap64 (x3_1+1)),aH,H',⟨by have:=HK1.out;omega⟩,by repeat (first|exact gH.refl _|apply bF)⟩
   ·obtain rfl:=Option.some.inj H
    go_wp2
    go_ret
    exact ⟨aH,by repeat (first|exact gH.refl _|apply bF)⟩
/-! ### impl_chi_inner: function 118 -/
def impl_chi_inner.f (k:Nat) (s0_0:Int) (s0_1:(Nat→Int)) (a1:Int) (a2:Int) (a3:Int) (a4:Int):Option (Int×Int×(Nat→Int)):=(impl_chi_split.f k s0_0 s0_1 a1 a2 a3 a4).bind fun bt101=>((impl_single.f k bt101.1).bind fun t105=>((impl_single.f k bt101.2.1).bind fun t106=>(some (mx t105 t106,bt101.2.2.1,bt101.2.2.2))))
theorem impl_chi_inner.mono:∀ a0 a1 a2 a3 a4 a5 k,LeO (impl_chi_inner.f k a0 a1 a2 a3 a4 a5) (impl_chi_inner.f (k+1) a0 a1 a2 a3 a4 a5):=by
 intro a0 a1 a2 a3 a4 a5 k
 unfold impl_chi_inner.f
 repeat' (with_reducible first|exact impl_chi_split.mono _ _ _ _ _ _ _|exact impl_single.mono _ _|exact LeO.refl _|exact LeO.none _|refine jA ?_ ?_|refine LeO.bind ?_ (fun _=>?_))
set_option maxHeartbeats 8000000 in
set_option maxRecDepth 100000 in
theorem vC (k:Nat) (g:Nat) (s0_0:Int) (s0_1:(Nat→Int)) (a1:Int) (a2:Int) (a3:Int) (a4:Int) (r1:Int) (r2:Int) (r3:(Nat→Int)) (w0 w:World) (hI:cS w0 w g s0_0 s0_1) (hB:Below w0.heap.size w0 w) (h:impl_chi_inner.f k s0_0 s0_1 a1 a2 a3 a4=some (r1,r2,r3)) :
  Calls Tryz.prog 118 #[.pointer (some ⟨g,0,none⟩),.int .i64 a1,.int .i64 a2,.int .i64 a3,.int .i64 a4] w fun e w'=>e=.returned (.int .i64 r1)∧cS w0 w' g r2 r3∧Below w0.heap.size w0 w'∧cM w w' g none:=by
 have HI0:=aE hI
 have HK:=aE (cM.refl w g none)
 have HL:=aE hB.size
 clear hI
 have HW0:=aE hB.size
 have HB:=aE hB
 clear hB
 unfold impl_chi_inner.f at h
 have H:=h
 clear h
 replace H:=eM H
 obtain ⟨⟨t101,t102,t103,t104⟩,A6,H⟩:=H
 try dsimp only at H
 replace H:=DB H
 obtain ⟨t105,A70,H⟩:=H
 replace H:((impl_single.f k t102).bind fun t106=>(some (mx t105 t106,t103,t104)))=some (r1,r2,r3):=H
 have A7:=aE A70
 clear A70
 replace H:=DB H
 obtain ⟨t106,A80,H⟩:=H
 replace H:(some (mx t105 t106,t103,t104))=some (r1,r2,r3):=H
 have A8:=aE A80
 clear A80
 obtain ⟨ji9,hji9⟩:∃ j_:Int,(mx t105 t106)=j_:=⟨_,rfl⟩
 replace H:(some (ji9,t103,t104))=some (r1,r2,r3):=by first|(rw [hji9] at H;exact H)|(simp only [hji9] at H ⊢;exact H)
 (try rw [hji9] at A6)
 (try rw [hji9] at A7)
 (try rw [hji9] at A8)
 have hji9_:(if t105<t106 then t106 else t105)=ji9:=hji9
 simp only [Option.some.injEq,Prod.mk.injEq] at H
 obtain ⟨rfl,rfl,rfl⟩:=H
 go_enter Tryz.func118,Tryz.ntmps118
 go_wp2_with (first|((with_reducible refine aJ (f:=119) rfl ?_);refine aV (some 19) Tryz.func119 #[.pointer (some ⟨g,0,none⟩),.int .i64 a1,.int .i64 a2,.int .i64 a3,.int .i64 a4] ?_;(with_reducible refine (vB k g s0_0 s0_1 a1 a2 a3 a4 t101 t102 t103 t104 w0 _ ?side1 ?side2 A6.out).mono ?_);(case side1=>exact cO HI0);(case side2=>exact gP HB (bS HI0.out));rintro e w10 ⟨rfl,hi,hb,hk⟩;refine ⟨_,rfl,?_⟩;replace HK:=aE (cM.trans (iZ HK) hk (.inl rfl));replace HB:=aE (hb);replace HI0:=aE (hi);(try clear hb);(try clear hk);(try clear hi))|((with_reducible refine aJ (f:=120) rfl ?_);refine aV (some 23) Tryz.func120 #[.int .i64 t101] ?_;(with_reducible refine (rD k t101 t105 _ A7.out).mono ?_);rintro e w' ⟨rfl,⟨nd,rfl⟩⟩;refine ⟨_,rfl,?_⟩)|((with_reducible refine aJ (f:=120) rfl ?_);refine aV (some 25) Tryz.func120 #[.int .i64 t102] ?_;(with_reducible refine (rD k t102 t106 _ A8.out).mono ?_);rintro e w' ⟨rfl,⟨nd,rfl⟩⟩;refine ⟨_,rfl,?_⟩))
 go_ret
 exact ⟨by first|rfl|(simp [cG,cI] <;> rfl)|(simp only [← hji9];first|rfl|(simp [cG,cI] <;> rfl))|(simp [*,cG,cI] <;> rfl),cO HI0,gP HB (bS HI0.out),iZ HK⟩
/-! ### impl_chi_isInside: function 116 -/
def impl_chi_isInside.f (k:Nat) (s0_0:Int) (s0_1:(Nat→Int)) (a1:Int) (a2:Int) (a3:Int) (a4:Int):Option (Bool×Int×(Nat→Int)):=(impl_chi_inner.f k s0_0 s0_1 a1 a2 a3 a4).bind fun bt101=>(some ((bt101.1==a1),bt101.2.1,bt101.2.2))
theorem impl_chi_isInside.mono:∀ a0 a1 a2 a3 a4 a5 k,LeO (impl_chi_isInside.f k a0 a1 a2 a3 a4 a5) (impl_chi_isInside.f (k+1) a0 a1 a2 a3 a4 a5):=by
 intro a0 a1 a2 a3 a4 a5 k
 unfold impl_chi_isInside.f
 repeat' (with_reducible first|exact impl_chi_inner.mono _ _ _ _ _ _ _|exact LeO.refl _|exact LeO.none _|refine jA ?_ ?_|refine LeO.bind ?_ (fun _=>?_))
set_option maxHeartbeats 8000000 in
set_option maxRecDepth 100000 in
theorem fH (k:Nat) (g:Nat) (s0_0:Int) (s0_1:(Nat→Int)) (a1:Int) (a2:Int) (a3:Int) (a4:Int) (r1:Bool) (r2:Int) (r3:(Nat→Int)) (w0 w:World) (hI:cS w0 w g s0_0 s0_1) (hB:Below w0.heap.size w0 w) (h:impl_chi_isInside.f k s0_0 s0_1 a1 a2 a3 a4=some (r1,r2,r3)) :
  Calls Tryz.prog 116 #[.pointer (some ⟨g,0,none⟩),.int .i64 a1,.int .i64 a2,.int .i64 a3,.int .i64 a4] w fun e w'=>e=.returned (.bool r1)∧cS w0 w' g r2 r3∧Below w0.heap.size w0 w'∧cM w w' g none:=by
 have HI0:=aE hI
 have HK:=aE (cM.refl w g none)
 have HL:=aE hB.size
 clear hI
 have HW0:=aE hB.size
 have HB:=aE hB
 clear hB
 unfold impl_chi_isInside.f at h
 have H:=h
 clear h
 replace H:=eM H
 obtain ⟨⟨t101,t102,t103⟩,A6,H⟩:=H
 try dsimp only at H
 simp only [Option.some.injEq,Prod.mk.injEq] at H
 obtain ⟨rfl,rfl,rfl⟩:=H
 go_enter Tryz.func116,Tryz.ntmps116
 go_wp2_with (first|((with_reducible refine aJ (f:=118) rfl ?_);refine aV (some 16) Tryz.func118 #[.pointer (some ⟨g,0,none⟩),.int .i64 a1,.int .i64 a2,.int .i64 a3,.int .i64 a4] ?_;(with_reducible refine (vC k g s0_0 s0_1 a1 a2 a3 a4 t101 t102 t103 w0 _ ?side1 ?side2 A6.out).mono ?_);(case side1=>exact cO HI0);(case side2=>exact gP HB (bS HI0.out));rintro e w7 ⟨rfl,hi,hb,hk⟩;refine ⟨_,rfl,?_⟩;replace HK:=aE (cM.trans (iZ HK) hk (.inl rfl));replace HB:=aE (hb);replace HI0:=aE (hi);(try clear hb);(try clear hk);(try clear hi)))
 go_ret
 exact ⟨bP,cO HI0,gP HB (bS HI0.out),iZ HK⟩
/-! ### impl_chi_inHull: function 106 -/
def bX:Nat→Int→Int→List (pO)→Int→Int→Int→(Nat→Int)→Option (Bool×Int×(Nat→Int))
 | 0,_,_,_,_,_,_,_=>none
 | k+1,x1,x2,x14,x15,x16,x1000,x1001=>if x16<x15 then (if 0≤x16 then (if x16<(x14.length:Int) then (if 0≤((aG x14 x16).f0) then (if 0≤((aG x14 x16).f1) then (if 0≤((aG x14 x16).f2) then (if (Go.bits .and .i64 x1 (Go.bits .or .i64 (Go.bits .or .i64 (kS .i64 1 ((aG x14 x16).f0)) (kS .i64 1 ((aG x14 x16).f1))) (kS .i64 1 ((aG x14 x16).f2))))=(Go.bits .or .i64 (Go.bits .or .i64 (kS .i64 1 ((aG x14 x16).f0)) (kS .i64 1 ((aG x14 x16).f1))) (kS .i64 1 ((aG x14 x16).f2))) then ((impl_chi_isInside.f k x1000 x1001 x2 ((aG x14 x16).f0) ((aG x14 x16).f1) ((aG x14 x16).f2)).bind fun bt106=>(if bt106.1=true then (some (true,bt106.2.1,bt106.2.2)) else (bX k x1 x2 x14 x15 (wrap64 (x16+1)) bt106.2.1 bt106.2.2))) else (bX k x1 x2 x14 x15 (wrap64 (x16+1)) x1000 x1001)) else (none)) else (none)) else (none)) else (none)) else (none)) else (some (false,x1000,x1001))
def impl_chi_inHull.f (k:Nat) (s0_0:Int) (s0_1:(Nat→Int)) (a1:Int) (a2:Int):Option (Bool×Int×(Nat→Int)):=(impl_triplesOf.f k s0_0).bind fun t101=>(bX k a1 a2 t101 (t101.length:Int) 0 s0_0 s0_1)
set_option maxHeartbeats 8000000 in
set_option maxRecDepth 100000 in
theorem nD (k:Nat) (g:Nat) (s0_0:Int) (s0_1:(Nat→Int)) (a1:Int) (a2:Int) (r1:Bool) (r2:Int) (r3:(Nat→Int)) (w0 w:World) (hI:cS w0 w g s0_0 s0_1) (hB:Below w0.heap.size w0 w) (h:impl_chi_inHull.f k s0_0 s0_1 a1 a2=some (r1,r2,r3)) :
  Calls Tryz.prog 106 #[.pointer (some ⟨g,0,none⟩),.int .i64 a1,.int .i64 a2] w fun e w'=>e=.returned (.bool r1)∧cS w0 w' g r2 r3∧Below w0.heap.size w0 w'∧cM w w' g none:=by
 have hu56:=Tryz.underlying56
 have HI0:=aE hI
 have HK:=aE (cM.refl w g none)
 have HL:=aE hB.size
 clear hI
 have HW0:=aE hB.size
 have HB:=aE hB
 clear hB
 unfold impl_chi_inHull.f at h
 have H:=h
 clear h
 replace H:=DB H
 obtain ⟨t101,A40,H⟩:=H
 replace H:(bX k a1 a2 t101 (t101.length:Int) 0 s0_0 s0_1)=some (r1,r2,r3):=H
 have A4:=aE A40
 clear A40
 have H':=aE H
 clear H
 obtain ⟨HGz5,hgz5⟩:=HI0.out
 have hcz5_0:=nJ HGz5
 have hfz5_0:=aA HGz5 0
 have hfz5_1:=aA HGz5 1
 clear HGz5 hgz5
 go_enter Tryz.func106,Tryz.ntmps106
 go_wp2_with (first|(go_at_call 38;(with_reducible refine (eI k s0_0 t101 _ A4.out).mono ?_);rintro e w6 ⟨v102,rfl,ho0,hb⟩;have HO103:=aE (Kd.R_lower ho0 (cR (w:=w) (g:=g) (row:=none) (iZ HK)));replace HK:=aE (cM.trans (iZ HK) (bZ hb g none) (.inl rfl));replace HB:=aE (aD (gP HB (bS HI0.out)) hb);replace HI0:=aE (cS.below (cO HI0) hb);(try clear hb);(try clear hk);(try clear hi);(try clear ho0);obtain ⟨Ao7,co7,eo7⟩:=Kd.R_slice HO103.out;subst eo7))
 repeat (go_quiet (first|(go_at_call 38;(with_reducible refine (eI k s0_0 t101 _ A4.out).mono ?_);rintro e w6 ⟨v102,rfl,ho0,hb⟩;have HO103:=aE (Kd.R_lower ho0 (cR (w:=w) (g:=g) (row:=none) (iZ HK)));replace HK:=aE (cM.trans (iZ HK) (bZ hb g none) (.inl rfl));replace HB:=aE (aD (gP HB (bS HI0.out)) hb);replace HI0:=aE (cS.below (cO HI0) hb);(try clear hb);(try clear hk);(try clear hi);(try clear ho0);obtain ⟨Ao7,co7,eo7⟩:=Kd.R_slice HO103.out;subst eo7));try go_wp2_with (first|(go_at_call 38;(with_reducible refine (eI k s0_0 t101 _ A4.out).mono ?_);rintro e w6 ⟨v102,rfl,ho0,hb⟩;have HO103:=aE (Kd.R_lower ho0 (cR (w:=w) (g:=g) (row:=none) (iZ HK)));replace HK:=aE (cM.trans (iZ HK) (bZ hb g none) (.inl rfl));replace HB:=aE (aD (gP HB (bS HI0.out)) hb);replace HI0:=aE (cS.below (cO HI0) hb);(try clear hb);(try clear hk);(try clear hi);(try clear ho0);obtain ⟨Ao7,co7,eo7⟩:=Kd.R_slice HO103.out;subst eo7)))
 go_loopg [16] k (fun kq v16 w'=>∃ (x16_1:Int) (x1000_1:Int) (x1001_1:(Nat→Int)),v16=.int .i64 x16_1∧Aside0 (bX kq a1 a2 t101 (t101.length:Int) x16_1 x1000_1 x1001_1=some (r1,r2,r3))∧Aside0 (kq≤k)∧Aside0 (Kd.R FQ 56 w' w.heap.size (fun _=>True) (.slice Ao7 t101.length co7) t101)∧Aside0 (cS w0 w' g x1000_1 x1001_1)∧Aside0 (cM w w' g none)∧Aside0 (Below w0.heap.size w0 w'))
 case atStart=>exact ⟨(0),(s0_0),(s0_1),aH,H',⟨Nat.le_refl _⟩,⟨bN HO103⟩,⟨cO HI0⟩,⟨iZ HK⟩,⟨gP HB (bS HI0.out)⟩⟩
 case round =>
  clear H'
  try clear hcz5_0
  try clear hfz5_0
  try clear hfz5_1
  obtain ⟨x16_1,x1000_1,x1001_1,rfl,HA,HK1,HO_14,HI0,HK,HB⟩:=hrel
  cases gk with
  | zero=>exact absurd HA.out (by simp [bX])
  | succ k1 =>
   have H:=HA.out
   clear HA
   simp only [bX] at H
   rcases eV H with ⟨c8b0,H⟩|⟨c8b0,H⟩
   ·obtain ⟨c9b0,H⟩:=cV H
    obtain ⟨c10b0,H⟩:=cV H
    obtain ⟨c11,H⟩:=gQ H
    have c11b0:=eq_true c11
    have c11b1:=decide_eq_true c11
    clear c11
    obtain ⟨ji12,hji12⟩:∃ j_:Int,(kS .i64 1 ((aG t101 x16_1).f0))=j_:=⟨_,rfl⟩
    replace H:(if 0≤((aG t101 x16_1).f1) then (if 0≤((aG t101 x16_1).f2) then (if (Go.bits .and .i64 a1 (Go.bits .or .i64 (Go.bits .or .i64 (ji12) (kS .i64 1 ((aG t101 x16_1).f1))) (kS .i64 1 ((aG t101 x16_1).f2))))=(Go.bits .or .i64 (Go.bits .or .i64 (ji12) (kS .i64 1 ((aG t101 x16_1).f1))) (kS .i64 1 ((aG t101 x16_1).f2))) then ((impl_chi_isInside.f k1 x1000_1 x1001_1 a2 ((aG t101 x16_1).f0) ((aG t101 x16_1).f1) ((aG t101 x16_1).f2)).bind fun bt106=>(if bt106.1=true then (some (true,bt106.2.1,bt106.2.2)) else (bX k1 a1 a2 t101 (t101.length:Int) (wrap64 (x16_1+1)) bt106.2.1 bt106.2.2))) else (bX k1 a1 a2 t101 (t101.length:Int) (wrap64 (x16_1+1)) x1000_1 x1001_1)) else (none)) else (none))=some (r1,r2,r3):=by first|(rw [hji12] at H;exact H)|(simp only [hji12] at H ⊢;exact H)
    have hji12_:(IntKind.i64.wrap (1*2 ^ min ((aG t101 x16_1).f0).toNat 64))=ji12:=hji12
    have hji12z:((aG t101 x16_1).f0)≤64→(IntKind.i64.wrap (1*2 ^ ((aG t101 x16_1).f0).toNat))=ji12:=jC hji12
    have hji12u:(IntKind.i64.wrap (2 ^ min ((aG t101 x16_1).f0).toNat 64))=ji12:=by have h_:=hji12_;rw [Int.one_mul] at h_;exact h_
    have hji12v:((aG t101 x16_1).f0)≤64→(IntKind.i64.wrap (2 ^ ((aG t101 x16_1).f0).toNat))=ji12:=fun hle_=>by have h_:=hji12z hle_;rw [Int.one_mul] at h_;exact h_
    have hji12y:(wrap64 (1*2 ^ min ((aG t101 x16_1).f0).toNat 64))=ji12:=(cC _).symm.trans hji12_
    have hji12x:((aG t101 x16_1).f0)≤64→(wrap64 (1*2 ^ ((aG t101 x16_1).f0).toNat))=ji12:=fun h_=>(cC _).symm.trans (hji12z h_)
    obtain ⟨c13,H⟩:=gQ H
    have c13b0:=eq_true c13
    have c13b1:=decide_eq_true c13
    clear c13
    obtain ⟨ji14,hji14⟩:∃ j_:Int,(kS .i64 1 ((aG t101 x16_1).f1))=j_:=⟨_,rfl⟩
    replace H:(if 0≤((aG t101 x16_1).f2) then (if (Go.bits .and .i64 a1 (Go.bits .or .i64 (Go.bits .or .i64 (ji12) (ji14)) (kS .i64 1 ((aG t101 x16_1).f2))))=(Go.bits .or .i64 (Go.bits .or .i64 (ji12) (ji14)) (kS .i64 1 ((aG t101 x16_1).f2))) then ((impl_chi_isInside.f k1 x1000_1 x1001_1 a2 ((aG t101 x16_1).f0) ((aG t101 x16_1).f1) ((aG t101 x16_1).f2)).bind fun bt106=>(if bt106.1=true then (some (true,bt106.2.1,bt106.2.2)) else (bX k1 a1 a2 t101 (t101.length:Int) (wrap64 (x16_1+1)) bt106.2.1 bt106.2.2))) else (bX k1 a1 a2 t101 (t101.length:Int) (wrap64 (x16_1+1)) x1000_1 x1001_1)) else (none))=some (r1,r2,r3):=by first|(rw [hji14] at H;exact H)|(simp only [hji14] at H ⊢;exact H)
    have hji14_:(IntKind.i64.wrap (1*2 ^ min ((aG t101 x16_1).f1).toNat 64))=ji14:=hji14
    have hji14z:((aG t101 x16_1).f1)≤64→(IntKind.i64.wrap (1*2 ^ ((aG t101 x16_1).f1).toNat))=ji14:=jC hji14
    have hji14u:(IntKind.i64.wrap (2 ^ min ((aG t101 x16_1).f1).toNat 64))=ji14:=by have h_:=hji14_;rw [Int.one_mul] at h_;exact h_
    have hji14v:((aG t101 x16_1).f1)≤64→(IntKind.i64.wrap (2 ^ ((aG t101 x16_1).f1).toNat))=ji14:=fun hle_=>by have h_:=hji14z hle_;rw [Int.one_mul] at h_;exact h_
    have hji14y:(wrap64 (1*2 ^ min ((aG t101 x16_1).f1).toNat 64))=ji14:=(cC _).symm.trans hji14_
    have hji14x:((aG t101 x16_1).f1)≤64→(wrap64 (1*2 ^ ((aG t101 x16_1).f1).toNat))=ji14:=fun h_=>(cC _).symm.trans (hji14z h_)
    obtain ⟨c15,H⟩:=gQ H
    have c15b0:=eq_true c15
    have c15b1:=decide_eq_true c15
    clear c15
    obtain ⟨ji16,hji16⟩:∃ j_:Int,(kS .i64 1 ((aG t101 x16_1).f2))=j_:=⟨_,rfl⟩
    replace H:(if (Go.bits .and .i64 a1 (Go.bits .or .i64 (Go.bits .or .i64 (ji12) (ji14)) (ji16)))=(Go.bits .or .i64 (Go.bits .or .i64 (ji12) (ji14)) (ji16)) then ((impl_chi_isInside.f k1 x1000_1 x1001_1 a2 ((aG t101 x16_1).f0) ((aG t101 x16_1).f1) ((aG t101 x16_1).f2)).bind fun bt106=>(if bt106.1=true then (some (true,bt106.2.1,bt106.2.2)) else (bX k1 a1 a2 t101 (t101.length:Int) (wrap64 (x16_1+1)) bt106.2.1 bt106.2.2))) else (bX k1 a1 a2 t101 (t101.length:Int) (wrap64 (x16_1+1)) x1000_1 x1001_1))=some (r1,r2,r3):=by first|(rw [hji16] at H;exact H)|(simp only [hji16] at H ⊢;exact H)
    have hji16_:(IntKind.i64.wrap (1*2 ^ min ((aG t101 x16_1).f2).toNat 64))=ji16:=hji16
    have hji16z:((aG t101 x16_1).f2)≤64→(IntKind.i64.wrap (1*2 ^ ((aG t101 x16_1).f2).toNat))=ji16:=jC hji16
    have hji16u:(IntKind.i64.wrap (2 ^ min ((aG t101 x16_1).f2).toNat 64))=ji16:=by have h_:=hji16_;rw [Int.one_mul] at h_;exact h_
    have hji16v:((aG t101 x16_1).f2)≤64→(IntKind.i64.wrap (2 ^ ((aG t101 x16_1).f2).toNat))=ji16:=fun hle_=>by have h_:=hji16z hle_;rw [Int.one_mul] at h_;exact h_
    have hji16y:(wrap64 (1*2 ^ min ((aG t101 x16_1).f2).toNat 64))=ji16:=(cC _).symm.trans hji16_
    have hji16x:((aG t101 x16_1).f2)≤64→(wrap64 (1*2 ^ ((aG t101 x16_1).f2).toNat))=ji16:=fun h_=>(cC _).symm.trans (hji16z h_)
    rcases jE H with ⟨c17,H⟩|⟨c17,H⟩
    ·have c17b0:((Go.bits .and .i64 a1 (Go.bits .or .i64 (Go.bits .or .i64 (ji12) (ji14)) (ji16)))==(Go.bits .or .i64 (Go.bits .or .i64 (ji12) (ji14)) (ji16)))=true:=beq_iff_eq.mpr c17
     have c17b1:((Go.bits .and .i64 a1 (Go.bits .or .i64 (Go.bits .or .i64 (ji12) (ji14)) (ji16))) != (Go.bits .or .i64 (Go.bits .or .i64 (ji12) (ji14)) (ji16)))=false:=bne_eq_false_iff_eq.mpr c17
     clear c17
     replace H:=eM H
     obtain ⟨⟨t106,t107,t108⟩,A18,H⟩:=H
     try dsimp only at H
     by_cases c19:t106=true
     ·subst c19
      rw [if_pos rfl] at H
      simp only [Option.some.injEq,Prod.mk.injEq] at H
      obtain ⟨rfl,rfl,rfl⟩:=H
      obtain ⟨p104,q104,ad104,e104,hx104_0,hx104_1,hx104_2⟩:=jP (rR (Kd.R_reads' HO_14.out).2.2 x16_1)
      cases e104
      go_wp2_with (first|((with_reducible refine aN (N:=8) rfl ?_);refine bV (N:=8) #[.int .i64 0,.int .i64 0,.int .i64 0] 56 ?_;intro gb105 hg w20 hbox hb;replace HO_14:=aE (Kd.R_below (Kd.R_elderB (bN HO_14) gb105 (Nat.le_of_eq hg.symm)) hb);replace HB:=aE (aD (gP HB (bS HI0.out)) hb);have BK105:=aE (hbox);have GW105:=aE ((by rw [hg];exact (cR (w:=w) (g:=g) (row:=none) (iZ HK)):w.heap.size≤gb105));have GE105:=aE ((Nat.le_trans HW0.out (by rw [hg];exact (cR (w:=w) (g:=g) (row:=none) (iZ HK)):w.heap.size≤gb105):w0.heap.size≤gb105));replace HK:=aE (cM.trans (iZ HK) (bZ hb g none) (.inl rfl));have NB0_105:=aE ((by rw [hg];exact Nat.ne_of_lt (iC (show cS w0 _ g x1000_1 x1001_1 from cO HI0)):g≠gb105));have NB105_0:=aE ((by rw [hg];exact Nat.ne_of_gt (iC (show cS w0 _ g x1000_1 x1001_1 from cO HI0)):gb105≠g));replace HI0:=aE (cS.below (cO HI0) hb);clear hb hbox hg;have hnb21:=NB105_0.out;have hnc21:=NB0_105.out;have hcz22_0:=aW BK105 0;have hcz22_1:=aW BK105 1;have hcz22_2:=aW BK105 2;have hfz22_0:=aA BK105.out 0;have hfz22_1:=aA BK105.out 1;have hfz22_2:=aA BK105.out 2)|(go_at_call 116;(with_reducible refine (fH k1 g x1000_1 x1001_1 a2 ((aG t101 x16_1).f0) ((aG t101 x16_1).f1) ((aG t101 x16_1).f2) true t107 t108 w0 _ ?side1 ?side2 A18.out).mono ?_);(case side1=>exact cO HI0);(case side2=>exact gP HB (bS HI0.out));rintro e w23 ⟨rfl,hi,hb,hk⟩;replace HO_14:=aE (Kd.R_mono (Kd.R_keep (cS.apart (show cS w0 _ g x1000_1 x1001_1 from cO HI0) (by (with_reducible repeat (first|apply kD|apply kE|apply gU));exact (Kd.R_mono (Kd.R_far (p:=⟨gb105,2,none⟩) (Kd.R_far (p:=⟨gb105,1,none⟩) (Kd.R_far (p:=⟨gb105,0,none⟩) (Kd.R_mono HO_14.out (fun k_ hk=>(⟨hk,hk.2⟩:_∧k_≠gb105))) (fun _ hk=>hk.2) (.int .i64 ((aG t101 x16_1).f0))) (fun _ hk=>hk.2) (.int .i64 ((aG t101 x16_1).f1))) (fun _ hk=>hk.2) (.int .i64 ((aG t101 x16_1).f2))) (fun _ h_=>h_.1))) (by decide)) hk (fun _ h=>h.2)) (fun _ h=>h.1));replace BK105:=aE (cM.blk hk (g':=gb105) (o:=.cells #[.int .i64 ((aG t101 x16_1).f0),.int .i64 ((aG t101 x16_1).f1),.int .i64 ((aG t101 x16_1).f2)] 56 (0,0)) (jR BK105) NB105_0.out (by simp));replace HK:=aE (cM.trans (by repeat (first|(with_reducible first|exact HK.out|apply cM.set_|apply eE|apply eU|apply eF|refine iB ?_ GW105.out _)|exact HK.out)) hk (.inl rfl));replace HB:=aE (hb);replace HI0:=aE (hi);(try clear hb);(try clear hk);(try clear hi)))
      repeat (go_quiet (first|((with_reducible refine aN (N:=8) rfl ?_);refine bV (N:=8) #[.int .i64 0,.int .i64 0,.int .i64 0] 56 ?_;intro gb105 hg w20 hbox hb;replace HO_14:=aE (Kd.R_below (Kd.R_elderB (bN HO_14) gb105 (Nat.le_of_eq hg.symm)) hb);replace HB:=aE (aD (gP HB (bS HI0.out)) hb);have BK105:=aE (hbox);have GW105:=aE ((by rw [hg];exact (cR (w:=w) (g:=g) (row:=none) (iZ HK)):w.heap.size≤gb105));have GE105:=aE ((Nat.le_trans HW0.out (by rw [hg];exact (cR (w:=w) (g:=g) (row:=none) (iZ HK)):w.heap.size≤gb105):w0.heap.size≤gb105));replace HK:=aE (cM.trans (iZ HK) (bZ hb g none) (.inl rfl));have NB0_105:=aE ((by rw [hg];exact Nat.ne_of_lt (iC (show cS w0 _ g x1000_1 x1001_1 from cO HI0)):g≠gb105));have NB105_0:=aE ((by rw [hg];exact Nat.ne_of_gt (iC (show cS w0 _ g x1000_1 x1001_1 from cO HI0)):gb105≠g));replace HI0:=aE (cS.below (cO HI0) hb);clear hb hbox hg;have hnb21:=NB105_0.out;have hnc21:=NB0_105.out;have hcz22_0:=aW BK105 0;have hcz22_1:=aW BK105 1;have hcz22_2:=aW BK105 2;have hfz22_0:=aA BK105.out 0;have hfz22_1:=aA BK105.out 1;have hfz22_2:=aA BK105.out 2)|(go_at_call 116;(with_reducible refine (fH k1 g x1000_1 x1001_1 a2 ((aG t101 x16_1).f0) ((aG t101 x16_1).f1) ((aG t101 x16_1).f2) true t107 t108 w0 _ ?side1 ?side2 A18.out).mono ?_);(case side1=>exact cO HI0);(case side2=>exact gP HB (bS HI0.out));rintro e w23 ⟨rfl,hi,hb,hk⟩;replace HO_14:=aE (Kd.R_mono (Kd.R_keep (cS.apart (show cS w0 _ g x1000_1 x1001_1 from cO HI0) (by (with_reducible repeat (first|apply kD|apply kE|apply gU));exact (Kd.R_mono (Kd.R_far (p:=⟨gb105,2,none⟩) (Kd.R_far (p:=⟨gb105,1,none⟩) (Kd.R_far (p:=⟨gb105,0,none⟩) (Kd.R_mono HO_14.out (fun k_ hk=>(⟨hk,hk.2⟩:_∧k_≠gb105))) (fun _ hk=>hk.2) (.int .i64 ((aG t101 x16_1).f0))) (fun _ hk=>hk.2) (.int .i64 ((aG t101 x16_1).f1))) (fun _ hk=>hk.2) (.int .i64 ((aG t101 x16_1).f2))) (fun _ h_=>h_.1))) (by decide)) hk (fun _ h=>h.2)) (fun _ h=>h.1));replace BK105:=aE (cM.blk hk (g':=gb105) (o:=.cells #[.int .i64 ((aG t101 x16_1).f0),.int .i64 ((aG t101 x16_1).f1),.int .i64 ((aG t101 x16_1).f2)] 56 (0,0)) (jR BK105) NB105_0.out (by simp));replace HK:=aE (cM.trans (by repeat (first|(with_reducible first|exact HK.out|apply cM.set_|apply eE|apply eU|apply eF|refine iB ?_ GW105.out _)|exact HK.out)) hk (.inl rfl));replace HB:=aE (hb);replace HI0:=aE (hi);(try clear hb);(try clear hk);(try clear hi)));try go_wp2_with (first|((with_reducible refine aN (N:=8) rfl ?_);refine bV (N:=8) #[.int .i64 0,.int .i64 0,.int .i64 0] 56 ?_;intro gb105 hg w20 hbox hb;replace HO_14:=aE (Kd.R_below (Kd.R_elderB (bN HO_14) gb105 (Nat.le_of_eq hg.symm)) hb);replace HB:=aE (aD (gP HB (bS HI0.out)) hb);have BK105:=aE (hbox);have GW105:=aE ((by rw [hg];exact (cR (w:=w) (g:=g) (row:=none) (iZ HK)):w.heap.size≤gb105));have GE105:=aE ((Nat.le_trans HW0.out (by rw [hg];exact (cR (w:=w) (g:=g) (row:=none) (iZ HK)):w.heap.size≤gb105):w0.heap.size≤gb105));replace HK:=aE (cM.trans (iZ HK) (bZ hb g none) (.inl rfl));have NB0_105:=aE ((by rw [hg];exact Nat.ne_of_lt (iC (show cS w0 _ g x1000_1 x1001_1 from cO HI0)):g≠gb105));have NB105_0:=aE ((by rw [hg];exact Nat.ne_of_gt (iC (show cS w0 _ g x1000_1 x1001_1 from cO HI0)):gb105≠g));replace HI0:=aE (cS.below (cO HI0) hb);clear hb hbox hg;have hnb21:=NB105_0.out;have hnc21:=NB0_105.out;have hcz22_0:=aW BK105 0;have hcz22_1:=aW BK105 1;have hcz22_2:=aW BK105 2;have hfz22_0:=aA BK105.out 0;have hfz22_1:=aA BK105.out 1;have hfz22_2:=aA BK105.out 2)|(go_at_call 116;(with_reducible refine (fH k1 g x1000_1 x1001_1 a2 ((aG t101 x16_1).f0) ((aG t101 x16_1).f1) ((aG t101 x16_1).f2) true t107 t108 w0 _ ?side1 ?side2 A18.out).mono ?_);(case side1=>exact cO HI0);(case side2=>exact gP HB (bS HI0.out));rintro e w23 ⟨rfl,hi,hb,hk⟩;replace HO_14:=aE (Kd.R_mono (Kd.R_keep (cS.apart (show cS w0 _ g x1000_1 x1001_1 from cO HI0) (by (with_reducible repeat (first|apply kD|apply kE|apply gU));exact (Kd.R_mono (Kd.R_far (p:=⟨gb105,2,none⟩) (Kd.R_far (p:=⟨gb105,1,none⟩) (Kd.R_far (p:=⟨gb105,0,none⟩) (Kd.R_mono HO_14.out (fun k_ hk=>(⟨hk,hk.2⟩:_∧k_≠gb105))) (fun _ hk=>hk.2) (.int .i64 ((aG t101 x16_1).f0))) (fun _ hk=>hk.2) (.int .i64 ((aG t101 x16_1).f1))) (fun _ hk=>hk.2) (.int .i64 ((aG t101 x16_1).f2))) (fun _ h_=>h_.1))) (by decide)) hk (fun _ h=>h.2)) (fun _ h=>h.1));replace BK105:=aE (cM.blk hk (g':=gb105) (o:=.cells #[.int .i64 ((aG t101 x16_1).f0),.int .i64 ((aG t101 x16_1).f1),.int .i64 ((aG t101 x16_1).f2)] 56 (0,0)) (jR BK105) NB105_0.out (by simp));replace HK:=aE (cM.trans (by repeat (first|(with_reducible first|exact HK.out|apply cM.set_|apply eE|apply eU|apply eF|refine iB ?_ GW105.out _)|exact HK.out)) hk (.inl rfl));replace HB:=aE (hb);replace HI0:=aE (hi);(try clear hb);(try clear hk);(try clear hi))))
      go_ret
      exact ⟨by first|rfl|(simp [cG,cI] <;> rfl)|(simp only [← hji12,← hji14,← hji16];first|rfl|(simp [cG,cI] <;> rfl))|(simp [*,cG,cI] <;> rfl),cO HI0,gP HB (bS HI0.out),by repeat (first|(with_reducible first|exact HK.out|apply cM.set_|apply eE|apply eU|apply eF|refine iB ?_ GW105.out _)|exact HK.out)⟩
     ·replace c19:=Bool.eq_false_iff.mpr c19
      subst c19
      rw [if_neg (show ¬ (false=true) by decide)] at H
      have H':=aE H
      clear H
      obtain ⟨p104,q104,ad104,e104,hx104_0,hx104_1,hx104_2⟩:=jP (rR (Kd.R_reads' HO_14.out).2.2 x16_1)
      cases e104
      go_wp2_with (first|((with_reducible refine aN (N:=8) rfl ?_);refine bV (N:=8) #[.int .i64 0,.int .i64 0,.int .i64 0] 56 ?_;intro gb105 hg w24 hbox hb;replace HO_14:=aE (Kd.R_below (Kd.R_elderB (bN HO_14) gb105 (Nat.le_of_eq hg.symm)) hb);replace HB:=aE (aD (gP HB (bS HI0.out)) hb);have BK105:=aE (hbox);have GW105:=aE ((by rw [hg];exact (cR (w:=w) (g:=g) (row:=none) (iZ HK)):w.heap.size≤gb105));have GE105:=aE ((Nat.le_trans HW0.out (by rw [hg];exact (cR (w:=w) (g:=g) (row:=none) (iZ HK)):w.heap.size≤gb105):w0.heap.size≤gb105));replace HK:=aE (cM.trans (iZ HK) (bZ hb g none) (.inl rfl));have NB0_105:=aE ((by rw [hg];exact Nat.ne_of_lt (iC (show cS w0 _ g x1000_1 x1001_1 from cO HI0)):g≠gb105));have NB105_0:=aE ((by rw [hg];exact Nat.ne_of_gt (iC (show cS w0 _ g x1000_1 x1001_1 from cO HI0)):gb105≠g));replace HI0:=aE (cS.below (cO HI0) hb);clear hb hbox hg;have hnb25:=NB105_0.out;have hnc25:=NB0_105.out;have hcz26_0:=aW BK105 0;have hcz26_1:=aW BK105 1;have hcz26_2:=aW BK105 2;have hfz26_0:=aA BK105.out 0;have hfz26_1:=aA BK105.out 1;have hfz26_2:=aA BK105.out 2)|(go_at_call 116;(with_reducible refine (fH k1 g x1000_1 x1001_1 a2 ((aG t101 x16_1).f0) ((aG t101 x16_1).f1) ((aG t101 x16_1).f2) false t107 t108 w0 _ ?side1 ?side2 A18.out).mono ?_);(case side1=>exact cO HI0);(case side2=>exact gP HB (bS HI0.out));rintro e w27 ⟨rfl,hi,hb,hk⟩;replace HO_14:=aE (Kd.R_mono (Kd.R_keep (cS.apart (show cS w0 _ g x1000_1 x1001_1 from cO HI0) (by (with_reducible repeat (first|apply kD|apply kE|apply gU));exact (Kd.R_mono (Kd.R_far (p:=⟨gb105,2,none⟩) (Kd.R_far (p:=⟨gb105,1,none⟩) (Kd.R_far (p:=⟨gb105,0,none⟩) (Kd.R_mono HO_14.out (fun k_ hk=>(⟨hk,hk.2⟩:_∧k_≠gb105))) (fun _ hk=>hk.2) (.int .i64 ((aG t101 x16_1).f0))) (fun _ hk=>hk.2) (.int .i64 ((aG t101 x16_1).f1))) (fun _ hk=>hk.2) (.int .i64 ((aG t101 x16_1).f2))) (fun _ h_=>h_.1))) (by decide)) hk (fun _ h=>h.2)) (fun _ h=>h.1));replace BK105:=aE (cM.blk hk (g':=gb105) (o:=.cells #[.int .i64 ((aG t101 x16_1).f0),.int .i64 ((aG t101 x16_1).f1),.int .i64 ((aG t101 x16_1).f2)] 56 (0,0)) (jR BK105) NB105_0.out (by simp));replace HK:=aE (cM.trans (by repeat (first|(with_reducible first|exact HK.out|apply cM.set_|apply eE|apply eU|apply eF|refine iB ?_ GW105.out _)|exact HK.out)) hk (.inl rfl));replace HB:=aE (hb);replace HI0:=aE (hi);(try clear hb);(try clear hk);(try clear hi)))
      repeat (go_quiet (first|((with_reducible refine aN (N:=8) rfl ?_);refine bV (N:=8) #[.int .i64 0,.int .i64 0,.int .i64 0] 56 ?_;intro gb105 hg w24 hbox hb;replace HO_14:=aE (Kd.R_below (Kd.R_elderB (bN HO_14) gb105 (Nat.le_of_eq hg.symm)) hb);replace HB:=aE (aD (gP HB (bS HI0.out)) hb);have BK105:=aE (hbox);have GW105:=aE ((by rw [hg];exact (cR (w:=w) (g:=g) (row:=none) (iZ HK)):w.heap.size≤gb105));have GE105:=aE ((Nat.le_trans HW0.out (by rw [hg];exact (cR (w:=w) (g:=g) (row:=none) (iZ HK)):w.heap.size≤gb105):w0.heap.size≤gb105));replace HK:=aE (cM.trans (iZ HK) (bZ hb g none) (.inl rfl));have NB0_105:=aE ((by rw [hg];exact Nat.ne_of_lt (iC (show cS w0 _ g x1000_1 x1001_1 from cO HI0)):g≠gb105));have NB105_0:=aE ((by rw [hg];exact Nat.ne_of_gt (iC (show cS w0 _ g x1000_1 x1001_1 from cO HI0)):gb105≠g));replace HI0:=aE (cS.below (cO HI0) hb);clear hb hbox hg;have hnb25:=NB105_0.out;have hnc25:=NB0_105.out;have hcz26_0:=aW BK105 0;have hcz26_1:=aW BK105 1;have hcz26_2:=aW BK105 2;have hfz26_0:=aA BK105.out 0;have hfz26_1:=aA BK105.out 1;have hfz26_2:=aA BK105.out 2)|(go_at_call 116;(with_reducible refine (fH k1 g x1000_1 x1001_1 a2 ((aG t101 x16_1).f0) ((aG t101 x16_1).f1) ((aG t101 x16_1).f2) false t107 t108 w0 _ ?side1 ?side2 A18.out).mono ?_);(case side1=>exact cO HI0);(case side2=>exact gP HB (bS HI0.out));rintro e w27 ⟨rfl,hi,hb,hk⟩;replace HO_14:=aE (Kd.R_mono (Kd.R_keep (cS.apart (show cS w0 _ g x1000_1 x1001_1 from cO HI0) (by (with_reducible repeat (first|apply kD|apply kE|apply gU));exact (Kd.R_mono (Kd.R_far (p:=⟨gb105,2,none⟩) (Kd.R_far (p:=⟨gb105,1,none⟩) (Kd.R_far (p:=⟨gb105,0,none⟩) (Kd.R_mono HO_14.out (fun k_ hk=>(⟨hk,hk.2⟩:_∧k_≠gb105))) (fun _ hk=>hk.2) (.int .i64 ((aG t101 x16_1).f0))) (fun _ hk=>hk.2) (.int .i64 ((aG t101 x16_1).f1))) (fun _ hk=>hk.2) (.int .i64 ((aG t101 x16_1).f2))) (fun _ h_=>h_.1))) (by decide)) hk (fun _ h=>h.2)) (fun _ h=>h.1));replace BK105:=aE (cM.blk hk (g':=gb105) (o:=.cells #[.int .i64 ((aG t101 x16_1).f0),.int .i64 ((aG t101 x16_1).f1),.int .i64 ((aG t101 x16_1).f2)] 56 (0,0)) (jR BK105) NB105_0.out (by simp));replace HK:=aE (cM.trans (by repeat (first|(with_reducible first|exact HK.out|apply cM.set_|apply eE|apply eU|apply eF|refine iB ?_ GW105.out _)|exact HK.out)) hk (.inl rfl));replace HB:=aE (hb);replace HI0:=aE (hi);(try clear hb);(try clear hk);(try clear hi)));try go_wp2_with (first|((with_reducible refine aN (N:=8) rfl ?_);refine bV (N:=8) #[.int .i64 0,.int .i64 0,.int .i64 0] 56 ?_;intro gb105 hg w24 hbox hb;replace HO_14:=aE (Kd.R_below (Kd.R_elderB (bN HO_14) gb105 (Nat.le_of_eq hg.symm)) hb);replace HB:=aE (aD (gP HB (bS HI0.out)) hb);have BK105:=aE (hbox);have GW105:=aE ((by rw [hg];exact (cR (w:=w) (g:=g) (row:=none) (iZ HK)):w.heap.size≤gb105));have GE105:=aE ((Nat.le_trans HW0.out (by rw [hg];exact (cR (w:=w) (g:=g) (row:=none) (iZ HK)):w.heap.size≤gb105):w0.heap.size≤gb105));replace HK:=aE (cM.trans (iZ HK) (bZ hb g none) (.inl rfl));have NB0_105:=aE ((by rw [hg];exact Nat.ne_of_lt (iC (show cS w0 _ g x1000_1 x1001_1 from cO HI0)):g≠gb105));have NB105_0:=aE ((by rw [hg];exact Nat.ne_of_gt (iC (show cS w0 _ g x1000_1 x1001_1 from cO HI0)):gb105≠g));replace HI0:=aE (cS.below (cO HI0) hb);clear hb hbox hg;have hnb25:=NB105_0.out;have hnc25:=NB0_105.out;have hcz26_0:=aW BK105 0;have hcz26_1:=aW BK105 1;have hcz26_2:=aW BK105 2;have hfz26_0:=aA BK105.out 0;have hfz26_1:=aA BK105.out 1;have hfz26_2:=aA BK105.out 2)|(go_at_call 116;(with_reducible refine (fH k1 g x1000_1 x1001_1 a2 ((aG t101 x16_1).f0) ((aG t101 x16_1).f1) ((aG t101 x16_1).f2) false t107 t108 w0 _ ?side1 ?side2 A18.out).mono ?_);(case side1=>exact cO HI0);(case side2=>exact gP HB (bS HI0.out));rintro e w27 ⟨rfl,hi,hb,hk⟩;replace HO_14:=aE (Kd.R_mono (Kd.R_keep (cS.apart (show cS w0 _ g x1000_1 x1001_1 from cO HI0) (by (with_reducible repeat (first|apply kD|apply kE|apply gU));exact (Kd.R_mono (Kd.R_far (p:=⟨gb105,2,none⟩) (Kd.R_far (p:=⟨gb105,1,none⟩) (Kd.R_far (p:=⟨gb105,0,none⟩) (Kd.R_mono HO_14.out (fun k_ hk=>(⟨hk,hk.2⟩:_∧k_≠gb105))) (fun _ hk=>hk.2) (.int .i64 ((aG t101 x16_1).f0))) (fun _ hk=>hk.2) (.int .i64 ((aG t101 x16_1).f1))) (fun _ hk=>hk.2) (.int .i64 ((aG t101 x16_1).f2))) (fun _ h_=>h_.1))) (by decide)) hk (fun _ h=>h.2)) (fun _ h=>h.1));replace BK105:=aE (cM.blk hk (g':=gb105) (o:=.cells #[.int .i64 ((aG t101 x16_1).f0),.int .i64 ((aG t101 x16_1).f1),.int .i64 ((aG t101 x16_1).f2)] 56 (0,0)) (jR BK105) NB105_0.out (by simp));replace HK:=aE (cM.trans (by repeat (first|(with_reducible first|exact HK.out|apply cM.set_|apply eE|apply eU|apply eF|refine iB ?_ GW105.out _)|exact HK.out)) hk (.inl rfl));replace HB:=aE (hb);replace HI0:=aE (hi);(try clear hb);(try clear hk);(try clear hi))))
      go_roundg k1
      case measure=>have:=HK1.out;omega
      case rel=>exact ⟨(wrap64 (x16_1+1)),(t107),(t108),aH,H',⟨by have:=HK1.out;omega⟩,⟨by (with_reducible repeat (first|apply kD|apply kE|apply gU));exact Kd.R_mono HO_14.out (fun _ hk=>trivial)⟩,⟨cO HI0⟩,⟨by repeat (first|(with_reducible first|exact HK.out|apply cM.set_|apply eE|apply eU|apply eF|refine iB ?_ GW105.out _)|exact HK.out)⟩,⟨gP HB (bS HI0.out)⟩⟩
    ·have c17b0:((Go.bits .and .i64 a1 (Go.bits .or .i64 (Go.bits .or .i64 (ji12) (ji14)) (ji16)))==(Go.bits .or .i64 (Go.bits .or .i64 (ji12) (ji14)) (ji16)))=false:=beq_eq_false_iff_ne.mpr c17
     have c17b1:((Go.bits .and .i64 a1 (Go.bits .or .i64 (Go.bits .or .i64 (ji12) (ji14)) (ji16))) != (Go.bits .or .i64 (Go.bits .or .i64 (ji12) (ji14)) (ji16)))=true:=bne_iff_ne.mpr c17
     have H':=aE H
     clear H
     obtain ⟨p104,q104,ad104,e104,hx104_0,hx104_1,hx104_2⟩:=jP (rR (Kd.R_reads' HO_14.out).2.2 x16_1)
     cases e104
     go_wp2_with (first|((with_reducible refine aN (N:=8) rfl ?_);refine bV (N:=8) #[.int .i64 0,.int .i64 0,.int .i64 0] 56 ?_;intro gb105 hg w28 hbox hb;replace HO_14:=aE (Kd.R_below (Kd.R_elderB (bN HO_14) gb105 (Nat.le_of_eq hg.symm)) hb);replace HB:=aE (aD (gP HB (bS HI0.out)) hb);have BK105:=aE (hbox);have GW105:=aE ((by rw [hg];exact (cR (w:=w) (g:=g) (row:=none) (iZ HK)):w.heap.size≤gb105));have GE105:=aE ((Nat.le_trans HW0.out (by rw [hg];exact (cR (w:=w) (g:=g) (row:=none) (iZ HK)):w.heap.size≤gb105):w0.heap.size≤gb105));replace HK:=aE (cM.trans (iZ HK) (bZ hb g none) (.inl rfl));have NB0_105:=aE ((by rw [hg];exact Nat.ne_of_lt (iC (show cS w0 _ g x1000_1 x1001_1 from cO HI0)):g≠gb105));have NB105_0:=aE ((by rw [hg];exact Nat.ne_of_gt (iC (show cS w0 _ g x1000_1 x1001_1 from cO HI0)):gb105≠g));replace HI0:=aE (cS.below (cO HI0) hb);clear hb hbox hg;have hnb29:=NB105_0.out;have hnc29:=NB0_105.out;have hcz30_0:=aW BK105 0;have hcz30_1:=aW BK105 1;have hcz30_2:=aW BK105 2;have hfz30_0:=aA BK105.out 0;have hfz30_1:=aA BK105.out 1;have hfz30_2:=aA BK105.out 2))
     repeat (go_quiet (first|((with_reducible refine aN (N:=8) rfl ?_);refine bV (N:=8) #[.int .i64 0,.int .i64 0,.int .i64 0] 56 ?_;intro gb105 hg w28 hbox hb;replace HO_14:=aE (Kd.R_below (Kd.R_elderB (bN HO_14) gb105 (Nat.le_of_eq hg.symm)) hb);replace HB:=aE (aD (gP HB (bS HI0.out)) hb);have BK105:=aE (hbox);have GW105:=aE ((by rw [hg];exact (cR (w:=w) (g:=g) (row:=none) (iZ HK)):w.heap.size≤gb105));have GE105:=aE ((Nat.le_trans HW0.out (by rw [hg];exact (cR (w:=w) (g:=g) (row:=none) (iZ HK)):w.heap.size≤gb105):w0.heap.size≤gb105));replace HK:=aE (cM.trans (iZ HK) (bZ hb g none) (.inl rfl));have NB0_105:=aE ((by rw [hg];exact Nat.ne_of_lt (iC (show cS w0 _ g x1000_1 x1001_1 from cO HI0)):g≠gb105));have NB105_0:=aE ((by rw [hg];exact Nat.ne_of_gt (iC (show cS w0 _ g x1000_1 x1001_1 from cO HI0)):gb105≠g));replace HI0:=aE (cS.below (cO HI0) hb);clear hb hbox hg;have hnb29:=NB105_0.out;have hnc29:=NB0_105.out;have hcz30_0:=aW BK105 0;have hcz30_1:=aW BK105 1;have hcz30_2:=aW BK105 2;have hfz30_0:=aA BK105.out 0;have hfz30_1:=aA BK105.out 1;have hfz30_2:=aA BK105.out 2));try go_wp2_with (first|((with_reducible refine aN (N:=8) rfl ?_);refine bV (N:=8) #[.int .i64 0,.int .i64 0,.int .i64 0] 56 ?_;intro gb105 hg w28 hbox hb;replace HO_14:=aE (Kd.R_below (Kd.R_elderB (bN HO_14) gb105 (Nat.le_of_eq hg.symm)) hb);replace HB:=aE (aD (gP HB (bS HI0.out)) hb);have BK105:=aE (hbox);have GW105:=aE ((by rw [hg];exact (cR (w:=w) (g:=g) (row:=none) (iZ HK)):w.heap.size≤gb105));have GE105:=aE ((Nat.le_trans HW0.out (by rw [hg];exact (cR (w:=w) (g:=g) (row:=none) (iZ HK)):w.heap.size≤gb105):w0.heap.size≤gb105));replace HK:=aE (cM.trans (iZ HK) (bZ hb g none) (.inl rfl));have NB0_105:=aE ((by rw [hg];exact Nat.ne_of_lt (iC (show cS w0 _ g x1000_1 x1001_1 from cO HI0)):g≠gb105));have NB105_0:=aE ((by rw [hg];exact Nat.ne_of_gt (iC (show cS w0 _ g x1000_1 x1001_1 from cO HI0)):gb105≠g));replace HI0:=aE (cS.below (cO HI0) hb);clear hb hbox hg;have hnb29:=NB105_0.out;have hnc29:=NB0_105.out;have hcz30_0:=aW BK105 0;have hcz30_1:=aW BK105 1;have hcz30_2:=aW BK105 2;have hfz30_0:=aA BK105.out 0;have hfz30_1:=aA BK105.out 1;have hfz30_2:=aA BK105.out 2)))
     go_roundg k1
     case measure=>have:=HK1.out;omega
     case rel=>exact ⟨(wrap64 (x16_1+1)),(x1000_1),(x1001_1),aH,H',⟨by have:=HK1.out;omega⟩,⟨by (with_reducible repeat (first|apply kD|apply kE|apply gU));exact Kd.R_mono (Kd.R_far (p:=⟨gb105,2,none⟩) (Kd.R_far (p:=⟨gb105,1,none⟩) (Kd.R_far (p:=⟨gb105,0,none⟩) (Kd.R_mono HO_14.out (fun k_ hk=>(⟨hk,hk.2⟩:_∧k_≠gb105))) (fun _ hk=>hk.2) (.int .i64 ((aG t101 x16_1).f0))) (fun _ hk=>hk.2) (.int .i64 ((aG t101 x16_1).f1))) (fun _ hk=>hk.2) (.int .i64 ((aG t101 x16_1).f2))) (fun _ hk=>trivial)⟩,⟨cO HI0⟩,⟨by repeat (first|(with_reducible first|exact HK.out|apply cM.set_|apply eE|apply eU|apply eF|refine iB ?_ GW105.out _)|exact HK.out)⟩,⟨gP HB (bS HI0.out)⟩⟩
   ·simp only [Option.some.injEq,Prod.mk.injEq] at H
    obtain ⟨rfl,rfl,rfl⟩:=H
    go_wp2
    repeat (go_quiet (fail);try go_wp2)
    go_ret
    exact ⟨bP,cO HI0,gP HB (bS HI0.out),iZ HK⟩
/-! ### impl_chi_extremeIn: function 84 -/
def bT:Nat→Int→Int→Int→Int→(Nat→Int)→Option (Int×Int×(Nat→Int))
 | 0,_,_,_,_,_=>none
 | k+1,x1,x5,x6,x1000,x1001=>if x6<x1000 then (if 0≤x6 then (if (Go.bits .and .i64 (RF .i64 x1 x6) 1)=1 then ((impl_chi_inHull.f k x1000 x1001 (Go.bits .andNot .i64 x1 (kS .i64 1 x6)) x6).bind fun bt101=>(if bt101.1=true then (bT k x1 x5 (wrap64 (x6+1)) bt101.2.1 bt101.2.2) else (bT k x1 (Go.bits .or .i64 x5 (kS .i64 1 x6)) (wrap64 (x6+1)) bt101.2.1 bt101.2.2))) else (bT k x1 x5 (wrap64 (x6+1)) x1000 x1001)) else (none)) else (some (x5,x1000,x1001))
def impl_chi_extremeIn.f (k:Nat) (s0_0:Int) (s0_1:(Nat→Int)) (a1:Int):Option (Int×Int×(Nat→Int)):=bT k a1 0 0 s0_0 s0_1
set_option maxHeartbeats 8000000 in
set_option maxRecDepth 100000 in
theorem rS (k:Nat) (g:Nat) (s0_0:Int) (s0_1:(Nat→Int)) (a1:Int) (r1:Int) (r2:Int) (r3:(Nat→Int)) (w0 w:World) (hI:cS w0 w g s0_0 s0_1) (hB:Below w0.heap.size w0 w) (h:impl_chi_extremeIn.f k s0_0 s0_1 a1=some (r1,r2,r3)) :
  Calls Tryz.prog 84 #[.pointer (some ⟨g,0,none⟩),.int .i64 a1] w fun e w'=>e=.returned (.int .i64 r1)∧cS w0 w' g r2 r3∧Below w0.heap.size w0 w'∧cM w w' g none:=by
 have HI0:=aE hI
 have HK:=aE (cM.refl w g none)
 have HL:=aE hB.size
 clear hI
 have HW0:=aE hB.size
 have HB:=aE hB
 clear hB
 unfold impl_chi_extremeIn.f at h
 have H:=h
 clear h
 have H':=aE H
 clear H
 go_enter Tryz.func84,Tryz.ntmps84
 go_wp2
 go_loopg [5,6] k (fun kq v5 v6 w'=>∃ (x5_1:Int) (x6_1:Int) (x1000_1:Int) (x1001_1:(Nat→Int)),v5=.int .i64 x5_1∧v6=.int .i64 x6_1∧Aside0 (bT kq a1 x5_1 x6_1 x1000_1 x1001_1=some (r1,r2,r3))∧Aside0 (kq≤k)∧Aside0 (cS w0 w' g x1000_1 x1001_1)∧Aside0 (cM w w' g none)∧Aside0 (Below w0.heap.size w0 w'))
 case atStart=>exact ⟨(0),(0),(s0_0),(s0_1),aH,aH,H',⟨Nat.le_refl _⟩,⟨cO HI0⟩,⟨iZ HK⟩,⟨gP HB (bS HI0.out)⟩⟩
 case round =>
  clear H'
  obtain ⟨x5_1,x6_1,x1000_1,x1001_1,rfl,rfl,HA,HK1,HI0,HK,HB⟩:=hrel
  cases gk with
  | zero=>exact absurd HA.out (by simp [bT])
  | succ k1 =>
   have H:=HA.out
   clear HA
   simp only [bT] at H
   rcases eV H with ⟨c3b0,H⟩|⟨c3b0,H⟩
   ·obtain ⟨c4,H⟩:=gQ H
    have c4b0:=eq_true c4
    have c4b1:=decide_eq_true c4
    clear c4
    obtain ⟨ji5,hji5⟩:∃ j_:Int,(RF .i64 a1 x6_1)=j_:=⟨_,rfl⟩
    replace H:(if (Go.bits .and .i64 (ji5) 1)=1 then ((impl_chi_inHull.f k1 x1000_1 x1001_1 (Go.bits .andNot .i64 a1 (kS .i64 1 x6_1)) x6_1).bind fun bt101=>(if bt101.1=true then (bT k1 a1 x5_1 (wrap64 (x6_1+1)) bt101.2.1 bt101.2.2) else (bT k1 a1 (Go.bits .or .i64 x5_1 (kS .i64 1 x6_1)) (wrap64 (x6_1+1)) bt101.2.1 bt101.2.2))) else (bT k1 a1 x5_1 (wrap64 (x6_1+1)) x1000_1 x1001_1))=some (r1,r2,r3):=by first|(rw [hji5] at H;exact H)|(simp only [hji5] at H ⊢;exact H)
    have hji5_:(a1 / 2 ^ min x6_1.toNat 64)=ji5:=hji5
    have hji5z:x6_1≤64→(a1 / 2 ^ x6_1.toNat)=ji5:=AO hji5
    rcases jE H with ⟨c6,H⟩|⟨c6,H⟩
    ·have c6b0:((Go.bits .and .i64 (ji5) 1)==1)=true:=beq_iff_eq.mpr c6
     have c6b1:((Go.bits .and .i64 (ji5) 1) != 1)=false:=bne_eq_false_iff_eq.mpr c6
     clear c6
     have c7b0:=eq_true (bI:0≤x6_1)
     obtain ⟨ji8,hji8⟩:∃ j_:Int,(kS .i64 1 x6_1)=j_:=⟨_,rfl⟩
     replace H:((impl_chi_inHull.f k1 x1000_1 x1001_1 (Go.bits .andNot .i64 a1 (ji8)) x6_1).bind fun bt101=>(if bt101.1=true then (bT k1 a1 x5_1 (wrap64 (x6_1+1)) bt101.2.1 bt101.2.2) else (bT k1 a1 (Go.bits .or .i64 x5_1 (ji8)) (wrap64 (x6_1+1)) bt101.2.1 bt101.2.2)))=some (r1,r2,r3):=by first|(rw [hji8] at H;exact H)|(simp only [hji8] at H ⊢;exact H)
     have hji8_:(IntKind.i64.wrap (1*2 ^ min x6_1.toNat 64))=ji8:=hji8
     have hji8z:x6_1≤64→(IntKind.i64.wrap (1*2 ^ x6_1.toNat))=ji8:=jC hji8
     have hji8u:(IntKind.i64.wrap (2 ^ min x6_1.toNat 64))=ji8:=by have h_:=hji8_;rw [Int.one_mul] at h_;exact h_
     have hji8v:x6_1≤64→(IntKind.i64.wrap (2 ^ x6_1.toNat))=ji8:=fun hle_=>by have h_:=hji8z hle_;rw [Int.one_mul] at h_;exact h_
     have hji8y:(wrap64 (1*2 ^ min x6_1.toNat 64))=ji8:=(cC _).symm.trans hji8_
     have hji8x:x6_1≤64→(wrap64 (1*2 ^ x6_1.toNat))=ji8:=fun h_=>(cC _).symm.trans (hji8z h_)
     replace H:=eM H
     obtain ⟨⟨t101,t102,t103⟩,A9,H⟩:=H
     try dsimp only at H
     by_cases c10:t101=true
     ·subst c10
      rw [if_pos rfl] at H
      have H':=aE H
      clear H
      obtain ⟨HGz11,hgz11⟩:=HI0.out
      have hcz11_0:=nJ HGz11
      have hfz11_0:=aA HGz11 0
      have hfz11_1:=aA HGz11 1
      clear HGz11 hgz11
      go_wp2_with (first|(go_at_call 106;(with_reducible refine (nD k1 g x1000_1 x1001_1 (Go.bits .andNot .i64 a1 (ji8)) x6_1 true t102 t103 w0 _ ?side1 ?side2 A9.out).mono ?_);(case side1=>exact cO HI0);(case side2=>exact gP HB (bS HI0.out));rintro e w12 ⟨rfl,hi,hb,hk⟩;replace HK:=aE (cM.trans (iZ HK) hk (.inl rfl));replace HB:=aE (hb);replace HI0:=aE (hi);(try clear hb);(try clear hk);(try clear hi)))
      go_roundg k1
      case measure=>have:=HK1.out;omega
      case rel=>exact ⟨(x5_1),(wrap64 (x6_1+1)),(t102),(t103),aH,aH,H',⟨by have:=HK1.out;omega⟩,⟨cO HI0⟩,⟨iZ HK⟩,⟨gP HB (bS HI0.out)⟩⟩
     ·replace c10:=Bool.eq_false_iff.mpr c10
      subst c10
      rw [if_neg (show ¬ (false=true) by decide)] at H
      have c13b0:=eq_true (bI:0≤x6_1)
      have H':=aE H
      clear H
      obtain ⟨HGz15,hgz15⟩:=HI0.out
      have hcz15_0:=nJ HGz15
      have hfz15_0:=aA HGz15 0
      have hfz15_1:=aA HGz15 1
      clear HGz15 hgz15
      go_wp2_with (first|(go_at_call 106;(with_reducible refine (nD k1 g x1000_1 x1001_1 (Go.bits .andNot .i64 a1 (ji8)) x6_1 false t102 t103 w0 _ ?side1 ?side2 A9.out).mono ?_);(case side1=>exact cO HI0);(case side2=>exact gP HB (bS HI0.out));rintro e w16 ⟨rfl,hi,hb,hk⟩;replace HK:=aE (cM.trans (iZ HK) hk (.inl rfl));replace HB:=aE (hb);replace HI0:=aE (hi);(try clear hb);(try clear hk);(try clear hi)))
      go_roundg k1
      case measure=>have:=HK1.out;omega
      case rel=>exact ⟨(Go.bits .or .i64 x5_1 (ji8)),(wrap64 (x6_1+1)),(t102),(t103),(by first|rfl|(simp;done)|(simp only [← hji8] <;> (first|rfl|simp))|(simp [*];done)),aH,H',⟨by have:=HK1.out;omega⟩,⟨cO HI0⟩,⟨iZ HK⟩,⟨gP HB (bS HI0.out)⟩⟩
    ·have c6b0:((Go.bits .and .i64 (ji5) 1)==1)=false:=beq_eq_false_iff_ne.mpr c6
     have c6b1:((Go.bits .and .i64 (ji5) 1) != 1)=true:=bne_iff_ne.mpr c6
     have H':=aE H
     clear H
     obtain ⟨HGz17,hgz17⟩:=HI0.out
     have hcz17_0:=nJ HGz17
     have hfz17_0:=aA HGz17 0
     have hfz17_1:=aA HGz17 1
     clear HGz17 hgz17
     go_wp2
     go_roundg k1
     case measure=>have:=HK1.out;omega
     case rel=>exact ⟨(x5_1),(wrap64 (x6_1+1)),(x1000_1),(x1001_1),aH,aH,H',⟨by have:=HK1.out;omega⟩,⟨cO HI0⟩,⟨iZ HK⟩,⟨gP HB (bS HI0.out)⟩⟩
   ·simp only [Option.some.injEq,Prod.mk.injEq] at H
    obtain ⟨rfl,rfl,rfl⟩:=H
    obtain ⟨HGz18,hgz18⟩:=HI0.out
    have hcz18_0:=nJ HGz18
    have hfz18_0:=aA HGz18 0
    have hfz18_1:=aA HGz18 1
    clear HGz18 hgz18
    go_wp2
    go_ret
    exact ⟨bP,cO HI0,gP HB (bS HI0.out),iZ HK⟩
/-! ### impl_fullSet: function 85 -/
def impl_fullSet.f (a0:Int):Option (Int):=if 0≤a0 then (some (wrap64 ((kS .i64 1 a0)-1))) else (none)
set_option maxHeartbeats 8000000 in
set_option maxRecDepth 100000 in
theorem xV (a0:Int) (r:Int) (w:World) (h:impl_fullSet.f a0=some r) :
  Calls Tryz.prog 85 #[.int .i64 a0] w fun e w'=>e=.returned (.int .i64 r)∧gH w w':=by
 unfold impl_fullSet.f at h
 have H:=h
 clear h
 obtain ⟨c2,H⟩:=gQ H
 have c2b0:=eq_true c2
 have c2b1:=decide_eq_true c2
 clear c2
 obtain ⟨ji3,hji3⟩:∃ j_:Int,(kS .i64 1 a0)=j_:=⟨_,rfl⟩
 replace H:(some (wrap64 ((ji3)-1)))=some r:=by first|(rw [hji3] at H;exact H)|(simp only [hji3] at H ⊢;exact H)
 have hji3_:(IntKind.i64.wrap (1*2 ^ min a0.toNat 64))=ji3:=hji3
 have hji3z:a0≤64→(IntKind.i64.wrap (1*2 ^ a0.toNat))=ji3:=jC hji3
 have hji3u:(IntKind.i64.wrap (2 ^ min a0.toNat 64))=ji3:=by have h_:=hji3_;rw [Int.one_mul] at h_;exact h_
 have hji3v:a0≤64→(IntKind.i64.wrap (2 ^ a0.toNat))=ji3:=fun hle_=>by have h_:=hji3z hle_;rw [Int.one_mul] at h_;exact h_
 have hji3y:(wrap64 (1*2 ^ min a0.toNat 64))=ji3:=(cC _).symm.trans hji3_
 have hji3x:a0≤64→(wrap64 (1*2 ^ a0.toNat))=ji3:=fun h_=>(cC _).symm.trans (hji3z h_)
 obtain rfl:=Option.some.inj H
 go_enter Tryz.func85,Tryz.ntmps85
 go_wp2
 go_ret
 exact ⟨by first|rfl|(simp;done)|(simp only [← hji3] <;> (first|rfl|simp))|(simp [*];done),by repeat (first|exact gH.refl _|apply bF)⟩
/-! ### impl_chi_left: function 86 -/
def mI (T:Nat→Int) (i j:Int) (n:Nat):Nat:=(List.range n).countP fun m=>T (i.toNat*49+j.toNat*7+m)==1
def impl_chi_left.f (s0_0:Int) (s0_1:Nat→Int) (a1 a2:Int):Option (Int×Int×(Nat→Int)):=if (0≤a1∧a1<7)∧(0≤a2∧a2<7)∧0≤s0_0∧s0_0≤7 then some ((mI s0_1 a1 a2 s0_0.toNat:Nat),s0_0,s0_1) else none
set_option maxHeartbeats 8000000 in
set_option maxRecDepth 100000 in
theorem oR (g:Nat) (s0_0:Int) (s0_1:Nat→Int) (a1 a2:Int) (r1:Int) (r2:Int) (r3:Nat→Int) (w0 w:World) (hI:cS w0 w g s0_0 s0_1) (hB:Below w0.heap.size w0 w) (h:impl_chi_left.f s0_0 s0_1 a1 a2=some (r1,r2,r3)) :
  Calls Tryz.prog 86 #[.pointer (some ⟨g,0,none⟩),.int .i64 a1,.int .i64 a2] w fun e w'=>e=.returned (.int .i64 r1)∧cS w0 w' g r2 r3∧Below w0.heap.size w0 w'∧cM w w' g none:=by
 unfold impl_chi_left.f at h
 by_cases hc:(0≤a1∧a1<7)∧(0≤a2∧a2<7)∧0≤s0_0∧s0_0≤7
 case neg=>rw [if_neg hc] at h;cases h
 rw [if_pos hc] at h
 simp only [Option.some.injEq,Prod.mk.injEq] at h
 obtain ⟨rfl,rfl,rfl⟩:=h
 obtain ⟨hi,hj,hn⟩:=hc
 suffices hs:Calls Tryz.prog 86 #[.pointer (some ⟨g,0,none⟩),.int .i64 a1,.int .i64 a2] w fun e w'=>e=.returned (.int .i64 (mI s0_1 a1 a2 s0_0.toNat:Nat))∧w'=w by
  refine hs.mono ?_
  rintro e w' ⟨he,rfl⟩
  exact ⟨he,hI,hB,cM.refl _ g none⟩
 have HT:=aE (NK hI)
 have hx0:=nJ hI.1
 have I58:=yY g a1 hi
 have I57:=yZ g a2 hj
 have HI:=aE hi
 have HJ:=aE hj
 have HN:=aE hn
 clear hI hB hi hj hn
 go_enter Tryz.func86,Tryz.ntmps86
 go_wp2
 go_loopg [7,8] 7 (fun gg v7 v8 w'=>∃ (x:Int) (ix:Nat),v8=.int .i64 x∧v7=.int .i64 (mI s0_1 a1 a2 ix:Nat)∧Aside0 (x=(ix:Int))∧Aside0 ((ix:Int)≤s0_0)∧Aside0 (gg+ix=7)∧w'=w)
 case atStart=>exact ⟨0,0,rfl,rfl,⟨rfl⟩,⟨by have:=HN.out;omega⟩,⟨rfl⟩,rfl⟩
 case round =>
  obtain ⟨x,ix,rfl,rfl,HX,HL,HG,rfl⟩:=hrel
  by_cases c:x<s0_0
  ·have c0:decide (x<s0_0)=true:=decide_eq_true c
   have hix:0≤x∧x<7:=by have:=HX.out;have:=HN.out;omega
   have I56:=yH g x hix
   have hcell:=HT.out a1 a2 x HI.out HJ.out hix
   have HS:=aE (show mI s0_1 a1 a2 (ix+1)=mI s0_1 a1 a2 ix+if s0_1 (a1.toNat*49+a2.toNat*7+ix)==1 then 1 else 0 by
    unfold mI
    rw [List.range_succ,List.countP_append,List.countP_cons,List.countP_nil];simp)
   have HLE:=aE (show mI s0_1 a1 a2 ix≤ix by unfold mI;exact Nat.le_trans List.countP_le_length (by simp))
   have HXN:=aE (show x.toNat=ix by have:=HX.out;omega)
   have HC:=aE c
   obtain ⟨v,hv⟩:∃ v,s0_1 (a1.toNat*49+a2.toNat*7+x.toNat)=v:=⟨_,rfl⟩
   rw [hv] at hcell
   have HV:=aE (show s0_1 (a1.toNat*49+a2.toNat*7+ix)=v by rw [← HXN.out];exact hv)
   clear hix hv c
   by_cases cv:v=1
   ·have cv0:decide (v=1)=true:=decide_eq_true cv
    have cv1:(v==1)=true:=by rw [cv];rfl
    have HW:=aE (show mI s0_1 a1 a2 (ix+1)=mI s0_1 a1 a2 ix+1 by rw [HS.out,HV.out,cv1];rfl)
    clear cv
    go_wp2
    go_roundg (gk-1)
    case measure=>have:=HG.out;have:=HX.out;have:=HC.out;have:=HN.out;omega
    case rel=>exact ⟨wrap64 (x+1),ix+1,by first|rfl|(simp;done),by rw [HW.out];first|rfl|(have:=HLE.out;have:=HX.out;have:=HC.out;have:=HN.out;rw [show wrap64 ((mI s0_1 a1 a2 ix:Int)+1)=((mI s0_1 a1 a2 ix+1:Nat):Int) by unfold wrap64;omega]),⟨by have:=HX.out;have:=HC.out;have:=HN.out;unfold wrap64;omega⟩,⟨by have:=HX.out;have:=HC.out;omega⟩,⟨by have:=HG.out;have:=HX.out;have:=HC.out;have:=HN.out;omega⟩,rfl⟩
   ·have cv0:decide (v=1)=false:=decide_eq_false cv
    have cv1:(v==1)=false:=by rw [beq_eq_false_iff_ne];exact cv
    have HW:=aE (show mI s0_1 a1 a2 (ix+1)=mI s0_1 a1 a2 ix by rw [HS.out,HV.out,cv1];rfl)
    clear cv
    go_wp2
    go_roundg (gk-1)
    case measure=>have:=HG.out;have:=HX.out;have:=HC.out;have:=HN.out;omega
    case rel=>exact ⟨wrap64 (x+1),ix+1,by first|rfl|(simp;done),by rw [HW.out],⟨by have:=HX.out;have:=HC.out;have:=HN.out;unfold wrap64;omega⟩,⟨by have:=HX.out;have:=HC.out;omega⟩,⟨by have:=HG.out;have:=HX.out;have:=HC.out;have:=HN.out;omega⟩,rfl⟩
  ·have c0:decide (x<s0_0)=false:=decide_eq_false c
   have HE:=aE (show ix=s0_0.toNat by have:=HX.out;have:=HL.out;omega)
   clear c
   go_wp2
   go_ret
   exact ⟨by first|(rw [HE.out];rfl)|rfl,rfl⟩
/-! ### impl_chi_hull: function 65 -/
mutual
def eG:Nat→List Int→List Int→Int→(Nat→Int)→Option (List Int×Int×(Nat→Int))
 | 0,_,_,_,_=>none
 | k+1,x3,x4,x1000,x1001=>if (x4.length:Int)<(x3.length:Int) then (if 0≤(wrap64 ((x4.length:Int)-1)) then (if (wrap64 ((x4.length:Int)-1))<(x4.length:Int) then (dF k x3 x4 (rd x4 (wrap64 ((x4.length:Int)-1))) x3 (x3.length:Int) 0 x1000 x1001) else (none)) else (none)) else (some (x4,x1000,x1001))
def dF:Nat→List Int→List Int→Int→List Int→Int→Int→Int→(Nat→Int)→Option (List Int×Int×(Nat→Int))
 | 0,_,_,_,_,_,_,_,_=>none
 | k+1,x3,x4,x5,x31,x32,x33,x1000,x1001=>if x33<x32 then (if 0≤x33 then (if x33<(x31.length:Int) then (if (rd x31 x33)=x5 then (dF k x3 x4 x5 x31 x32 (wrap64 (x33+1)) x1000 x1001) else ((impl_chi_left.f x1000 x1001 (rd x31 x33) x5).bind fun bt114=>(if bt114.1=0 then (if x4.length<17592186044416 then (eG k x3 (x4++[rd x31 x33]) bt114.2.1 bt114.2.2) else (none)) else (dF k x3 x4 x5 x31 x32 (wrap64 (x33+1)) bt114.2.1 bt114.2.2)))) else (none)) else (none)) else (eG k x3 x4 x1000 x1001)
end
def impl_chi_hull.f (k:Nat) (s0_0:Int) (s0_1:(Nat→Int)):Option (List Int×Int×(Nat→Int)):=(impl_fullSet.f s0_0).bind fun t101=>((impl_chi_extremeIn.f k s0_0 s0_1 t101).bind fun bt102=>((impl_elementsOf.f k bt102.1).bind fun t105=>(if 0<(t105.length:Int) then (eG k t105 (([rd t105 0]:List Int)) bt102.2.1 bt102.2.2) else (none))))
set_option maxHeartbeats 8000000 in
set_option maxRecDepth 100000 in
theorem wN (k : Nat) (g : Nat) (s0_0 : Int) (s0_1 : (Nat → Int)) (r1 : List Int) (r2 : Int) (r3 : (Nat → Int)) (w0 w : World) (hI : cS w0 w g s0_0 s0_1) (hB : Below w0.heap.size w0 w) (h : impl_chi_hull.f k s0_0 s0_1 = some (r1, r2, r3)) :
  Calls Tryz.prog 65 #[.pointer (some ⟨g,0,none⟩)] w fun e w'=>∃ v0_:Value,e=.returned (v0_)∧Kd.R (Kd.int .i64) 3 w' w.heap.size (fun _=>True) v0_ r1∧cS w0 w' g r2 r3∧Below w0.heap.size w0 w'∧cM w w' g none:=by
 have HI0:=aE hI
 have HK:=aE (cM.refl w g none)
 have HL:=aE hB.size
 clear hI
 have HW0:=aE hB.size
 have HB:=aE hB
 clear hB
 unfold impl_chi_hull.f at h
 have H:=h
 clear h
 replace H:=DB H
 obtain ⟨t101,A20,H⟩:=H
 replace H:((impl_chi_extremeIn.f k s0_0 s0_1 t101).bind fun bt102=>((impl_elementsOf.f k bt102.1).bind fun t105=>(if 0<(t105.length:Int) then (eG k t105 (([rd t105 0]:List Int)) bt102.2.1 bt102.2.2) else (none))))=some (r1,r2,r3):=H
 have A2:=aE A20
 clear A20
 replace H:=eM H
 obtain ⟨⟨t102,t103,t104⟩,A3,H⟩:=H
 try dsimp only at H
 replace H:=DB H
 obtain ⟨t105,A40,H⟩:=H
 replace H:(if 0<(t105.length:Int) then (eG k t105 (([rd t105 0]:List Int)) t103 t104) else (none))=some (r1,r2,r3):=H
 have A4:=aE A40
 clear A40
 obtain ⟨c5,H⟩:=gQ H
 have c5b0:=decide_eq_true c5
 have c5b1:decide (0<t105.length)=true:=decide_eq_true (by omega)
 clear c5
 obtain ⟨y109,hy109⟩:∃ y_:List Int,y_=(([rd t105 0]:List Int)):=⟨_,rfl⟩
 first|(with_reducible replace H:=oO hy109 H)|(with_reducible replace H:=oP hy109 H)|rw [← hy109] at H
 have Ny109:=aE hy109
 clear hy109
 have H':=aE H
 clear H
 obtain ⟨HGz6,hgz6⟩:=HI0.out
 have hcz6_0:=nJ HGz6
 have hfz6_0:=aA HGz6 0
 have hfz6_1:=aA HGz6 1
 clear HGz6 hgz6
 go_enter Tryz.func65,Tryz.ntmps65
 go_wp2_with (first|((with_reducible refine aJ (f:=85) rfl ?_);refine aV (some 13) Tryz.func85 #[.int .i64 s0_0] ?_;(with_reducible refine (xV s0_0 t101 _ A2.out).mono ?_);rintro e w' ⟨rfl,⟨nd,rfl⟩⟩;refine ⟨_,rfl,?_⟩)|((with_reducible refine aJ (f:=84) rfl ?_);refine aV (some 14) Tryz.func84 #[.pointer (some ⟨g,0,none⟩),.int .i64 t101] ?_;(with_reducible refine (rS k g s0_0 s0_1 t101 t102 t103 t104 w0 _ ?side1 ?side2 A3.out).mono ?_);(case side1=>exact cO HI0);(case side2=>exact gP HB (bS HI0.out));rintro e w7 ⟨rfl,hi,hb,hk⟩;refine ⟨_,rfl,?_⟩;replace HK:=aE (cM.trans (iZ HK) hk (.inl rfl));replace HB:=aE (hb);replace HI0:=aE (hi);(try clear hb);(try clear hk);(try clear hi))|((with_reducible refine aJ (f:=83) rfl ?_);refine aV (some 15) Tryz.func83 #[.int .i64 t102] ?_;(with_reducible refine (uJ k t102 t105 _ A4.out).mono ?_);rintro e w8 ⟨v106,rfl,ho0,hb⟩;refine ⟨_,rfl,?_⟩;have HO107:=aE (Kd.R_lower ho0 (cR (w:=w) (g:=g) (row:=none) (iZ HK)));replace HK:=aE (cM.trans (iZ HK) (bZ hb g none) (.inl rfl));replace HB:=aE (aD (gP HB (bS HI0.out)) hb);replace HI0:=aE (cS.below (cO HI0) hb);(try clear hb);(try clear hk);(try clear hi);(try clear ho0);obtain ⟨Ao9,co9,eo9⟩:=Kd.R_slice HO107.out;subst eo9;have p108:0≤(0:Int):=(by omega);have q108:0<(t105.length:Int):=bI;obtain ⟨ad108,e108,hx108_0⟩:=Kd.at_int (Kd.R_reads' HO107.out).2.2 0 p108 q108;cases e108;have qi108:(0<t105.length)=True:=eq_true (by omega);(try rw [show ((0:Int)).toNat=0 from rfl] at hx108_0);(try rw [Addr.add_zero'] at hx108_0);replace p108:=eq_true p108;replace q108:=eq_true q108)|((with_reducible refine aN (N:=19) rfl ?_);refine Kd.R_lit (Kd.int .i64) _ 3 ?hg (N:=19) ?hd (xs:=([rd t105 0]:List Int)) (inner:=[.int .i64 (rd t105 0)]) (ok:=fun _=>True) (okp:=fun _=>True) ?hr ?hp (fun _ hk=>hk) trivial (Below.refl _ _) (Nat.le_refl _) (by simp) ?_;(case hd=>rfl);(case hg=>rfl);(case hr=>first|(go_simp;done)|(go_simp;rfl));(case hp=>exact (dG (show Kd.M (Kd.int .i64) _ _ _ (rd t105 0) [.int .i64 (rd t105 0)] from rfl) (kC.none _ _)));intro v110 w10 ho11 hb hg_ hnew_;clear hg_ hnew_;(first|rw [← Ny109.out] at ho11|(simp only [Int.reduceToNat] at ho11;rw [← Ny109.out] at ho11));have HO111:=aE (Kd.R_lower (Kd.R_new' ho11 (Kd.R_lt (bN HO107))) (cR (w:=w) (g:=g) (row:=none) (iZ HK)));replace HO107:=aE (Kd.R_elder' (bN HO107) (Kd.R_base ho11) hb);replace HK:=aE (cM.trans (iZ HK) (bZ hb g none) (.inl rfl));replace HB:=aE (aD (gP HB (bS HI0.out)) hb);replace HI0:=aE (cS.below (cO HI0) hb);clear hb ho11))
 go_loopg [4] k (fun kq v4 w'=>∃ (x4_1:List Int) (x1000_1:Int) (x1001_1:(Nat→Int)),Aside0 (eG kq t105 x4_1 x1000_1 x1001_1=some (r1,r2,r3))∧Aside0 (kq≤k)∧Aside0 (Kd.R (Kd.int .i64) 3 w' w.heap.size (fun k_=>some k_≠(v4:Value).ownBlock) (.slice (some ad108) t105.length co9) t105)∧Aside0 (Kd.R (Kd.int .i64) 3 w' w.heap.size (fun k_=>some k_≠((.slice (some ad108) t105.length co9):Value).ownBlock) v4 x4_1)∧Aside0 (cS w0 w' g x1000_1 x1001_1)∧Aside0 (cM w w' g none)∧Aside0 (Below w0.heap.size w0 w'))
 case atStart=>exact ⟨(y109),(t103),(t104),H',⟨Nat.le_refl _⟩,⟨by (with_reducible repeat (first|apply kD|apply kE|apply gU));exact Kd.R_mono HO107.out (fun _ hk=>hk.2)⟩,⟨by (with_reducible repeat (first|apply kD|apply kE|apply gU));exact Kd.R_mono HO111.out (fun _ hk=>hk.2)⟩,⟨cO HI0⟩,⟨iZ HK⟩,⟨gP HB (bS HI0.out)⟩⟩
 case round =>
  clear H'
  try clear c5
  try clear c5b0
  try clear c5b1
  try clear hcz6_0
  try clear hfz6_0
  try clear hfz6_1
  try clear hx108_0
  try clear p108
  try clear q108
  obtain ⟨x4_1,x1000_1,x1001_1,HA,HK1,HO_3,HO_4,HI0,HK,HB⟩:=hrel
  cases gk with
  | zero=>exact absurd HA.out (by simp [eG])
  | succ k1 =>
   have H:=HA.out
   clear HA
   simp only [eG] at H
   rcases jE H with ⟨c12,H⟩|⟨c12,H⟩
   ·have c12b0 := decide_eq_true c12
    have c12b1:decide (x4_1.length<t105.length)=true:=decide_eq_true (Int.ofNat_lt.mp c12)
    clear c12
    obtain ⟨ji13,hji13⟩:∃ j_:Int,(wrap64 ((x4_1.length:Int)-1))=j_:=⟨_,rfl⟩
    replace H:(if 0≤(ji13) then (if (ji13)<(x4_1.length:Int) then (dF k1 t105 x4_1 (rd x4_1 (ji13)) t105 (t105.length:Int) 0 x1000_1 x1001_1) else (none)) else (none))=some (r1,r2,r3):=by first|(rw [hji13] at H;exact H)|(simp only [hji13] at H ⊢;exact H)
    have hji13w:(IntKind.i64.wrap ((x4_1.length:Int)-1))=ji13:=(cC _).trans hji13
    obtain ⟨c14b0,H⟩:=cV H
    obtain ⟨c15b0,H⟩:=cV H
    have H':=aE H
    clear H
    obtain ⟨Ao16,co16,eo16⟩:=Kd.R_slice HO_4.out
    subst eo16
    obtain ⟨p112,q112,ad112,e112,hx112_0⟩:=jP (Kd.at_int (Kd.R_reads' HO_4.out).2.2 (ji13))
    cases e112
    go_wp2
    go_loopg [4,33] k1 (fun kq v4 v33 w'=>∃ (x4_2:List Int) (x33_2:Int) (x1000_2:Int) (x1001_2:(Nat→Int)),v33=.int .i64 x33_2∧Aside0 (dF kq t105 x4_2 (rd x4_1 (ji13)) t105 (t105.length:Int) x33_2 x1000_2 x1001_2=some (r1,r2,r3))∧Aside0 (kq≤k1)∧Aside0 (Kd.R (Kd.int .i64) 3 w' w.heap.size (fun k_=>some k_≠(v4:Value).ownBlock) (.slice (some ad108) t105.length co9) t105)∧Aside0 (Kd.R (Kd.int .i64) 3 w' w.heap.size (fun k_=>some k_≠((.slice (some ad108) t105.length co9):Value).ownBlock∧some k_≠((.slice (some ad108) t105.length co9):Value).ownBlock) v4 x4_2)∧Aside0 (Kd.R (Kd.int .i64) 3 w' w.heap.size (fun k_=>some k_≠(v4:Value).ownBlock) (.slice (some ad108) t105.length co9) t105)∧Aside0 (cS w0 w' g x1000_2 x1001_2)∧Aside0 (cM w w' g none)∧Aside0 (Below w0.heap.size w0 w'))
    case atStart=>exact ⟨(x4_1),(0),(x1000_1),(x1001_1),aH,H',⟨Nat.le_refl _⟩,⟨bN HO_3⟩,⟨by (with_reducible repeat (first|apply kD|apply kE|apply gU));exact Kd.R_mono HO_4.out (fun _ hk=>⟨hk,hk⟩)⟩,⟨bN HO_3⟩,⟨cO HI0⟩,⟨iZ HK⟩,⟨gP HB (bS HI0.out)⟩⟩
    case round =>
     clear H'
     try clear c5
     try clear c5b0
     try clear c5b1
     try clear c12
     try clear c12b0
     try clear c12b1
     try clear c14b0
     try clear c15b0
     try clear hcz6_0
     try clear hfz6_0
     try clear hfz6_1
     try clear hx108_0
     try clear hx112_0
     try clear p108
     try clear p112
     try clear q108
     try clear q112
     obtain ⟨x4_2,x33_2,x1000_2,x1001_2,rfl,HA,HK2,HO_3,HO_4,HO_31,HI0,HK,HB⟩:=hrel
     cases gk with
     | zero=>exact absurd HA.out (by simp [dF])
     | succ k2 =>
      have H:=HA.out
      clear HA
      simp only [dF] at H
      rcases eV H with ⟨c17b0,H⟩|⟨c17b0,H⟩
      ·obtain ⟨c18b0,H⟩:=cV H
       obtain ⟨c19b0,H⟩:=cV H
       rcases jE H with ⟨c20,H⟩|⟨c20,H⟩
       ·have c20b0:((rd t105 x33_2)==(rd x4_1 (ji13)))=true:=beq_iff_eq.mpr c20
        have c20b1:((rd t105 x33_2) != (rd x4_1 (ji13)))=false:=bne_eq_false_iff_eq.mpr c20
        clear c20
        have H':=aE H
        clear H
        obtain ⟨p113,q113,ad113,e113,hx113_0⟩:=jP (Kd.at_int (Kd.R_reads' HO_31.out).2.2 x33_2)
        obtain rfl:ad108=ad113:=(by injection e113)
        go_wp2
        go_roundg k2
        case measure=>have:=HK1.out;have:=HK2.out;omega
        case rel=>exact ⟨(x4_2),(wrap64 (x33_2+1)),(x1000_2),(x1001_2),aH,H',⟨by have:=HK1.out;have:=HK2.out;omega⟩,⟨bN HO_3⟩,⟨bN HO_4⟩,⟨bN HO_31⟩,⟨cO HI0⟩,⟨iZ HK⟩,⟨gP HB (bS HI0.out)⟩⟩
       ·have c20b0:((rd t105 x33_2)==(rd x4_1 (ji13)))=false:=beq_eq_false_iff_ne.mpr c20
        have c20b1:((rd t105 x33_2) != (rd x4_1 (ji13)))=true:=bne_iff_ne.mpr c20
        replace H:=eM H
        obtain ⟨⟨t114,t115,t116⟩,A21,H⟩:=H
        try dsimp only at H
        rcases jE H with ⟨c22,H⟩|⟨c22,H⟩
        ·have c22b0:(t114==0)=true:=beq_iff_eq.mpr c22
         have c22b1:(t114 != 0)=false:=bne_eq_false_iff_eq.mpr c22
         clear c22
         obtain ⟨c23,H⟩:=gQ H
         have LMc23:=aE c23
         clear c23
         obtain ⟨y117,hy117⟩:∃ y_:List Int,y_=(x4_2++[rd t105 x33_2]):=⟨_,rfl⟩
         first|(with_reducible replace H:=oO hy117 H)|(with_reducible replace H:=oP hy117 H)|rw [← hy117] at H
         have Ny117:=aE hy117
         clear hy117
         have H':=aE H
         clear H
         obtain ⟨p113,q113,ad113,e113,hx113_0⟩:=jP (Kd.at_int (Kd.R_reads' HO_31.out).2.2 x33_2)
         obtain rfl:ad108=ad113:=(by injection e113)
         go_wp2_with (first|(go_at_call 86;(with_reducible refine (oR g x1000_2 x1001_2 (rd t105 x33_2) (rd x4_1 (ji13)) t114 t115 t116 w0 _ ?side1 ?side2 A21.out).mono ?_);(case side1=>exact cO HI0);(case side2=>exact gP HB (bS HI0.out));rintro e w24 ⟨rfl,hi,hb,hk⟩;replace HO_3:=aE (Kd.R_mono (Kd.R_keep (cS.apart (show cS w0 _ g x1000_2 x1001_2 from cO HI0) (bN HO_3) (by decide)) hk (fun _ h=>h.2)) (fun _ h=>h.1));replace HO_4:=aE (Kd.R_mono (Kd.R_keep (cS.apart (show cS w0 _ g x1000_2 x1001_2 from cO HI0) (bN HO_4) (by decide)) hk (fun _ h=>h.2)) (fun _ h=>h.1));replace HO_31:=aE (Kd.R_mono (Kd.R_keep (cS.apart (show cS w0 _ g x1000_2 x1001_2 from cO HI0) (bN HO_31) (by decide)) hk (fun _ h=>h.2)) (fun _ h=>h.1));replace HK:=aE (cM.trans (iZ HK) hk (.inl rfl));replace HB:=aE (hb);replace HI0:=aE (hi);(try clear hb);(try clear hk);(try clear hi))|((with_reducible refine cT (b:=.append) (xs:=#[.tmp 47,.tmp 49]) rfl ?_);at_builtin;refine Kd.R_append (Kd.int .i64) w.heap.size rfl (.tmp 47) (.tmp 49) 33 3 (.int .i64 0) 8 rfl Tryz.underlying33 mO rfl (by decide) (by omega) u4 x4_2 (rd t105 x33_2) [.int .i64 (rd t105 x33_2)] (fun k_=>some k_≠(.slice (some ad108) t105.length co9:Value).ownBlock∧some k_≠(.slice (some ad108) t105.length co9:Value).ownBlock) (fun _=>False) rfl rfl ?aP (fun _ hk=>hk.elim) ?aF ?aO (Below.refl _ _) ?aS ?aL ?_;(case aP=>exact rfl);(case aF=>exact (fun k_ hk=>⟨Kd.fresh' (Kd.R_lt (bN HO_3)) k_ hk,Kd.fresh' (Kd.R_lt (bN HO_31)) k_ hk⟩));(case aO=>exact (bN HO_4));(case aS=>exact (cR (w:=w) (g:=g) (row:=none) (iZ HK)));(case aL=>have:=LMc23.out;omega);intro v118 w25 ho hb hg hat;rw [← Ny117.out] at ho;replace HO_3:=aE (Kd.R_after (ok:=(fun _=>True)) (by (with_reducible repeat (first|apply kD|apply kE|apply gU));exact Kd.R_mono HO_3.out (fun _ hk=>⟨trivial,hk⟩)) hg hat);replace HO_31:=aE (Kd.R_after (ok:=(fun _=>True)) (by (with_reducible repeat (first|apply kD|apply kE|apply gU));exact Kd.R_mono HO_31.out (fun _ hk=>⟨trivial,hk⟩)) hg hat);replace HB:=aE (sX (gP HB (bS HI0.out)) HL.out hb);replace HI0:=aE (cS.grown (cO HI0) hg (IB HI0.out HO_4.out (by decide)));replace HK:=aE (cM.trans (iZ HK) (kM hg g) (Kd.R_base2 HO_4.out));have HO119:=aE (ho);clear HO_4;clear ho hb hg hat))
         go_roundg k2
         case measure=>have:=HK1.out;have:=HK2.out;omega
         case rel=>exact ⟨(y117),(t115),(t116),H',⟨by have:=HK1.out;have:=HK2.out;omega⟩,⟨by (with_reducible repeat (first|apply kD|apply kE|apply gU));exact Kd.R_mono HO_3.out (fun _ hk=>hk.2)⟩,⟨by (with_reducible repeat (first|apply kD|apply kE|apply gU));exact Kd.R_mono HO119.out (fun _ hk=>hk.1)⟩,⟨cO HI0⟩,⟨iZ HK⟩,⟨gP HB (bS HI0.out)⟩⟩
        ·have c22b0:(t114==0)=false:=beq_eq_false_iff_ne.mpr c22
         have c22b1:(t114 != 0)=true:=bne_iff_ne.mpr c22
         have H':=aE H
         clear H
         obtain ⟨p113,q113,ad113,e113,hx113_0⟩:=jP (Kd.at_int (Kd.R_reads' HO_31.out).2.2 x33_2)
         obtain rfl:ad108=ad113:=(by injection e113)
         go_wp2_with (first|(go_at_call 86;(with_reducible refine (oR g x1000_2 x1001_2 (rd t105 x33_2) (rd x4_1 (ji13)) t114 t115 t116 w0 _ ?side1 ?side2 A21.out).mono ?_);(case side1=>exact cO HI0);(case side2=>exact gP HB (bS HI0.out));rintro e w26 ⟨rfl,hi,hb,hk⟩;replace HO_3:=aE (Kd.R_mono (Kd.R_keep (cS.apart (show cS w0 _ g x1000_2 x1001_2 from cO HI0) (bN HO_3) (by decide)) hk (fun _ h=>h.2)) (fun _ h=>h.1));replace HO_4:=aE (Kd.R_mono (Kd.R_keep (cS.apart (show cS w0 _ g x1000_2 x1001_2 from cO HI0) (bN HO_4) (by decide)) hk (fun _ h=>h.2)) (fun _ h=>h.1));replace HO_31:=aE (Kd.R_mono (Kd.R_keep (cS.apart (show cS w0 _ g x1000_2 x1001_2 from cO HI0) (bN HO_31) (by decide)) hk (fun _ h=>h.2)) (fun _ h=>h.1));replace HK:=aE (cM.trans (iZ HK) hk (.inl rfl));replace HB:=aE (hb);replace HI0:=aE (hi);(try clear hb);(try clear hk);(try clear hi)))
         go_roundg k2
         case measure=>have:=HK1.out;have:=HK2.out;omega
         case rel=>exact ⟨(x4_2),(wrap64 (x33_2+1)),(t115),(t116),aH,H',⟨by have:=HK1.out;have:=HK2.out;omega⟩,⟨bN HO_3⟩,⟨bN HO_4⟩,⟨bN HO_31⟩,⟨cO HI0⟩,⟨iZ HK⟩,⟨gP HB (bS HI0.out)⟩⟩
      ·have H':=aE H
       clear H
       go_wp2
       go_roundg k2
       case measure=>have:=HK1.out;have:=HK2.out;omega
       case rel=>exact ⟨(x4_2),(x1000_2),(x1001_2),H',⟨by have:=HK1.out;have:=HK2.out;omega⟩,⟨bN HO_3⟩,⟨by (with_reducible repeat (first|apply kD|apply kE|apply gU));exact Kd.R_mono HO_4.out (fun _ hk=>hk.1)⟩,⟨cO HI0⟩,⟨iZ HK⟩,⟨gP HB (bS HI0.out)⟩⟩
   ·have c12b0:=decide_eq_false c12
    have c12b1:decide (x4_1.length<t105.length)=false:=decide_eq_false (fun h=>c12 (Int.ofNat_lt.mpr h))
    clear c12
    simp only [Option.some.injEq,Prod.mk.injEq] at H
    obtain ⟨rfl,rfl,rfl⟩:=H
    obtain ⟨Ao27,co27,eo27⟩:=Kd.R_slice HO_4.out
    subst eo27
    go_wp2
    go_ret
    exact ⟨_,bP,by (with_reducible repeat (first|apply kD|apply kE|apply gU));exact Kd.R_mono HO_4.out (fun _ hk=>trivial),cO HI0,gP HB (bS HI0.out),iZ HK⟩
/-! ### impl_hullPoints: function 32 -/
def eO:Nat→List (cF)→List (cF)→List Int→Int→Int→Option ((List (cF)))
 | 0,_,_,_,_,_=>none
 | k+1,x0,x5,x15,x16,x17=>if x17<x16 then (if 0≤x17 then (if x17<(x15.length:Int) then (if 0≤(rd x15 x17) then (if (rd x15 x17)<(x0.length:Int) then (if x5.length<8796093022208 then (eO k x0 (x5++[(⟨(aC x0 (rd x15 x17)).f0,(aC x0 (rd x15 x17)).f1⟩:cF)]) x15 x16 (wrap64 (x17+1))) else (none)) else (none)) else (none)) else (none)) else (none)) else (some x5)
def impl_hullPoints.f (k:Nat) (l0:List (cF)):Option ((List (cF))):=(impl_SignsOf.f k l0).bind fun bt101=>((impl_tableOf.f bt101.1 bt101.2.1).bind fun bt105=>((impl_chi_hull.f k bt105.1 bt105.2).bind fun bt108=>(eO k l0 ([]:List (cF)) bt108.1 (bt108.1.length:Int) 0)))
set_option maxHeartbeats 8000000 in
set_option maxRecDepth 100000 in
theorem lE (k:Nat) (A0:Option Addr) (c0:Nat) (l0:List (cF)) (r:List (cF)) (w:World) (hr0:Kd.C jW w A0 l0.length l0) (hc0:l0.length≤c0) (h:impl_hullPoints.f k l0=some r) :
  Calls Tryz.prog 32 #[.slice A0 l0.length c0] w fun e w'=>∃ v0_:Value,e=.returned (v0_)∧Kd.R jW 28 w' w.heap.size (fun _=>True) v0_ r∧Below w.heap.size w w':=by
 have hu41:=Tryz.underlying41
 have hu28:=Tryz.underlying28
 have HR0:=aE hr0
 have HC0:=aE hc0
 clear hr0 hc0
 have HB:=aE (Below.refl w.heap.size w)
 unfold impl_hullPoints.f at h
 have H:=h
 clear h
 replace H:=eM H
 obtain ⟨⟨t101,t102,t103⟩,A2,H⟩:=H
 try dsimp only at H
 replace H:=eM H
 obtain ⟨⟨t105,t106⟩,A3,H⟩:=H
 try dsimp only at H
 replace H:=eM H
 obtain ⟨⟨t108,t111,t112⟩,A4,H⟩:=H
 try dsimp only at H
 have H':=aE H
 clear H
 go_enter Tryz.func32,Tryz.ntmps32
 go_wp2_with (first|((with_reducible refine aJ (f:=63) rfl ?_);refine aV (some 10) Tryz.func63 #[.slice A0 l0.length c0] ?_;(with_reducible refine (xU k _ _ l0 t101 t102 t103 _ ?side1 ?side2 A2.out).mono ?_);(case side1=>exact kJ HR0.out);(case side2=>exact HC0.out);rintro e w5 ⟨rfl,hb⟩;refine ⟨_,rfl,?_⟩;replace HB:=aE (aD (aX HB) hb);(try clear hb);(try clear hb2);(try clear hk);(try clear hi))|((with_reducible refine aN (N:=3) rfl ?_);refine bV (N:=3) #[.int .i64 0,.string (⟨#[]⟩:ByteArray)] 41 ?_;intro gb104 hg w6 hbox hb;have BK104:=aE (hbox);have GW104:=aE ((dX HB hg));have GE104:=aE ((dX HB hg));replace HB:=aE (aD (aX HB) hb);clear hb hbox hg;have hcz7_0:=aW BK104 0;have hcz7_1:=aW BK104 1;have hfz7_0:=aA BK104.out 0;have hfz7_1:=aA BK104.out 1)|((with_reducible refine aJ (f:=64) rfl ?_);refine aV (some 14) Tryz.func64 #[.agg #[.int .i64 t101,.string t102]] ?_;(with_reducible refine (xS t101 t102 t105 t106 w _ ?side1 A3.out).mono ?_);(case side1=>exact aX HB);rintro e w8 ⟨g107,rfl,hi,hb,hb2⟩;refine ⟨_,rfl,?_⟩;replace HB:=aE (hb);have HI107:=aE (hi);have NB107_104:=aE (yS hi (aZ (g:=gb104) (o:=.cells #[.int .i64 t101,.string t102] 41 (0,0)) (jR BK104) hb2) (by decide));have NB104_107:=aE (Ne.symm (yS hi (aZ (g:=gb104) (o:=.cells #[.int .i64 t101,.string t102] 41 (0,0)) (jR BK104) hb2) (by decide)));replace BK104:=aE (aZ (g:=gb104) (o:=.cells #[.int .i64 t101,.string t102] 41 (0,0)) (jR BK104) hb2);(try clear hb);(try clear hb2);(try clear hk);(try clear hi))|((with_reducible refine aJ (f:=65) rfl ?_);refine aV (some 15) Tryz.func65 #[.pointer (some ⟨g107,0,none⟩)] ?_;(with_reducible refine (wN k g107 t105 t106 t108 t111 t112 w _ ?side1 ?side2 A4.out).mono ?_);(case side1=>exact cO HI107);(case side2=>exact gP HB (bS HI107.out));rintro e w9 ⟨v109,rfl,ho0,hi,hb,hk⟩;refine ⟨_,rfl,?_⟩;replace BK104:=aE (cM.blk hk (g':=gb104) (o:=.cells #[.int .i64 t101,.string t102] 41 (0,0)) (fO BK104) NB104_107.out (by simp));have HO110:=aE (Kd.R_lower ho0 (aT (gP HB (bS HI107.out))));replace HB:=aE (hb);replace HI107:=aE (hi);(try clear hb);(try clear hb2);(try clear hk);(try clear hi);(try clear ho0);obtain ⟨Ao10,co10,eo10⟩:=Kd.R_slice HO110.out;subst eo10))
 go_loopg [5,17] k (fun kq v5 v17 w'=>∃ (x5_1:List (cF)) (x17_1:Int),v17=.int .i64 x17_1∧Aside0 (eO kq l0 x5_1 t108 (t108.length:Int) x17_1=some r)∧Aside0 (kq≤k)∧Aside0 (Kd.R jW 28 w' w.heap.size (fun _=>True) v5 x5_1)∧Aside0 (Kd.R (Kd.int .i64) 3 w' w.heap.size (fun _=>True) (.slice Ao10 t108.length co10) t108)∧Aside0 (w'.heap[gb104]? = some (.cells #[.int .i64 t101,.string t102] 41 (0,0)))∧Aside0 (Below w.heap.size w w'))
 case atStart=>exact ⟨(([]:List (cF))),(0),aH,H',⟨Nat.le_refl _⟩,⟨by first|exact Kd.R_nil _ _ _ _ _|exact Kd.N_nil _ _ _ _ _|exact Kd.V_nil _ _ _ _ _|exact Kd.Q_nil _ _ _ _ _|exact Kd.S_nil _ _ _ _ _⟩,⟨bN HO110⟩,⟨fO BK104⟩,⟨gP HB (bS HI107.out)⟩⟩
 case round =>
  clear H'
  try clear hcz7_0
  try clear hcz7_1
  try clear hfz7_0
  try clear hfz7_1
  obtain ⟨x5_1,x17_1,rfl,HA,HK1,HO_5,HO_15,BK104,HB⟩:=hrel
  cases gk with
  | zero=>exact absurd HA.out (by simp [eO])
  | succ k1 =>
   have H:=HA.out
   clear HA
   simp only [eO] at H
   rcases eV H with ⟨c11b0,H⟩|⟨c11b0,H⟩
   ·obtain ⟨c12b0,H⟩:=cV H
    obtain ⟨c13b0,H⟩:=cV H
    obtain ⟨c14b0,H⟩:=cV H
    obtain ⟨c15b0,H⟩:=cV H
    obtain ⟨c16,H⟩:=gQ H
    have LMc16:=aE c16
    clear c16
    obtain ⟨y115,hy115⟩:∃ y_:List (cF),y_=(x5_1++[(⟨(aC l0 (rd t108 x17_1)).f0,(aC l0 (rd t108 x17_1)).f1⟩:cF)]):=⟨_,rfl⟩
    first|(with_reducible replace H:=oO hy115 H)|(with_reducible replace H:=oP hy115 H)|rw [← hy115] at H
    have Ny115:=aE hy115
    clear hy115
    have H':=aE H
    clear H
    obtain ⟨p113,q113,ad113,e113,hx113_0⟩:=jP (Kd.at_int (Kd.R_reads' HO_15.out).2.2 x17_1)
    cases e113
    have p114:0≤((rd t108 x17_1):Int):=bI
    have q114:(rd t108 x17_1)<(l0.length:Int):=bI
    obtain ⟨ad114,e114,hx114_0,hx114_1⟩:=bW HR0.out (rd t108 x17_1) p114 q114
    cases e114
    replace hx114_0:=aY HB hx114_0
    replace hx114_1:=aY HB hx114_1
    replace p114:=eq_true p114
    replace q114:=eq_true q114
    go_wp2_with (first|((with_reducible refine cT (b:=.append) (xs:=#[.tmp 21,.tmp 26]) rfl ?_);at_builtin;refine Kd.R_append jW (w0:=w) w.heap.size rfl (.tmp 21) (.tmp 26) 24 28 (.agg #[(.int .i64 0),(.int .i64 0)]) 16 rfl Tryz.underlying24 IA rfl (by decide) (by omega) u5 x5_1 (⟨(aC l0 (rd t108 x17_1)).f0,(aC l0 (rd t108 x17_1)).f1⟩:cF) [.int .i64 ((aC l0 (rd t108 x17_1)).f0),.int .i64 ((aC l0 (rd t108 x17_1)).f1)] (fun _=>True) (fun _=>False) rfl rfl ?aP (fun _ hk=>hk.elim) ?aF ?aO ?aB ?aS ?aL ?_;(case aP=>exact jO _ _ _ (⟨(aC l0 (rd t108 x17_1)).f0,(aC l0 (rd t108 x17_1)).f1⟩:cF));(case aB=>exact (aX HB));(case aF=>exact (fun _ _=>trivial));(case aO=>exact (bN HO_5));(case aS=>exact (aT (aX HB)));(case aL=>have:=LMc16.out;omega);intro v116 w17 ho hb hg hat;rw [← Ny115.out] at ho;replace HO_15:=aE (Kd.R_over' (bN HO_15) (Kd.R_typed (bN HO_5)) (by decide) hg);replace BK104:=aE (kL (g:=gb104) (o:=.cells #[.int .i64 t101,.string t102] 41 (0,0)) (fO BK104) hg (Kd.R_ne HO_5.out BK104.out (by decide)));replace HB:=aE (hb);have HO117:=aE (ho);clear HO_5;clear ho hb hg hat))
    go_roundg k1
    case measure=>have:=HK1.out;omega
    case rel=>exact ⟨(y115),(wrap64 (x17_1+1)),aH,H',⟨by have:=HK1.out;omega⟩,⟨bN HO117⟩,⟨bN HO_15⟩,⟨fO BK104⟩,⟨aX HB⟩⟩
   ·obtain rfl:=Option.some.inj H
    go_wp2
    go_ret
    exact ⟨_,bP,bN HO_5,aX HB⟩
/-! ### impl_EdgePoints: function 7 -/
def dZ:Nat→List (cF)→Int→List (cF)→Int→Int→Option (Int)
 | 0,_,_,_,_,_=>none
 | k+1,x3,x4,x12,x13,x14=>if x14<x13 then (if 0≤x14 then (if x14<(x12.length:Int) then (if (x3.length:Int)=0 then (none) else (if 0≤(Int.tmod (wrap64 (x14+1)) (x3.length:Int)) then (if (Int.tmod (wrap64 (x14+1)) (x3.length:Int))<(x3.length:Int) then ((impl_OnEdge.f k ((aC x12 x14).f0) ((aC x12 x14).f1) ((aC x3 (Int.tmod (wrap64 (x14+1)) (x3.length:Int))).f0) ((aC x3 (Int.tmod (wrap64 (x14+1)) (x3.length:Int))).f1)).bind fun t108=>(dZ k x3 (wrap64 (x4+t108)) x12 x13 (wrap64 (x14+1)))) else (none)) else (none))) else (none)) else (none)) else (some x4)
def impl_EdgePoints.f (k:Nat) (l0:List (cF)):Option (Int):=(impl_ArePoints.f k l0).bind fun t101=>(if t101=true then ((impl_hullPoints.f k l0).bind fun t102=>(dZ k t102 0 t102 (t102.length:Int) 0)) else (some (-1)))
def qD:Bool×List (List Nat×List Nat):=(true,[([],[]),([],[]),([],[]),([],[]),([3],[3]),([],[]),([5],[5]),([4,6],[4,6]),([2,7],[2,7]),([8],[8]),([1,9],[1,9]),([0,10],[0,10]),([11,10,0,1,2,3,4,5,6,7,8,9,10,11],[0,11])])
def xW:List Nat:=[0,0,0,0,8,0,32,120,252,508,1022,2047,4095]
theorem vD:iQ .any (iS Tryz.f7 8)=qD:=by kernel_rfl
theorem uL:dM qD.2 xW=true:=by kernel_rfl
set_option maxHeartbeats 8000000 in
set_option maxRecDepth 100000 in
theorem nE (k:Nat) (A0:Option Addr) (c0:Nat) (l0:List (cF)) (r:Int) (w:World) (hr0:Kd.C jW w A0 l0.length l0) (hc0:l0.length≤c0) (h:impl_EdgePoints.f k l0=some r) :
  Calls Tryz.prog 7 #[.slice A0 l0.length c0] w fun e w'=>e=.returned (.int .i64 r)∧Below w.heap.size w w':=by
 have hu28:=Tryz.underlying28
 have HR0:=aE hr0
 have HC0:=aE hc0
 clear hr0 hc0
 have HB:=aE (Below.refl w.heap.size w)
 unfold impl_EdgePoints.f at h
 have H:=h
 clear h
 replace H:=eM H
 obtain ⟨t101,A2,H⟩:=H
 by_cases c3:t101=true
 ·subst c3
  rw [if_pos rfl] at H
  replace H:=eM H
  obtain ⟨t102,A4,H⟩:=H
  have H':=aE H
  clear H
  go_enter Tryz.func7,Tryz.ntmps7
  go_wp2_with (first|((with_reducible refine aJ (f:=30) rfl ?_);refine aV (some 8) Tryz.func30 #[.slice A0 l0.length c0] ?_;(with_reducible refine (cA k _ _ l0 true _ ?side1 ?side2 A2.out).mono ?_);(case side1=>exact kJ HR0.out);(case side2=>exact HC0.out);rintro e w5 ⟨rfl,hb⟩;refine ⟨_,rfl,?_⟩;replace HB:=aE (aD (aX HB) hb);(try clear hb);(try clear hk))|((with_reducible refine aJ (f:=32) rfl ?_);refine aV (some 11) Tryz.func32 #[.slice A0 l0.length c0] ?_;(with_reducible refine (lE k _ _ l0 t102 _ ?side1 ?side2 A4.out).mono ?_);(case side1=>exact kJ (Kd.C_below HR0.out HB.out));(case side2=>exact HC0.out);rintro e w6 ⟨v103,rfl,ho0,hb⟩;refine ⟨_,rfl,?_⟩;have HO104:=aE (Kd.R_lower ho0 (aT (aX HB)));replace HB:=aE (aD (aX HB) hb);(try clear hb);(try clear hk);(try clear ho0);obtain ⟨Ao7,co7,eo7⟩:=Kd.R_slice HO104.out;subst eo7))
  go_loopg [4,14] k (fun kq v4 v14 w'=>∃ (x4_1:Int) (x14_1:Int),v4=.int .i64 x4_1∧v14=.int .i64 x14_1∧Aside0 (dZ kq t102 x4_1 t102 (t102.length:Int) x14_1=some r)∧Aside0 (kq≤k)∧Aside0 (Kd.R jW 28 w' w.heap.size (fun _=>True) (.slice Ao7 t102.length co7) t102)∧Aside0 (Kd.R jW 28 w' w.heap.size (fun _=>True) (.slice Ao7 t102.length co7) t102)∧Aside0 (Below w.heap.size w w'))
  case atStart=>exact ⟨(0),(0),aH,aH,H',⟨Nat.le_refl _⟩,⟨bN HO104⟩,⟨bN HO104⟩,⟨aX HB⟩⟩
  case round =>
   clear H'
   try clear c3
   obtain ⟨x4_1,x14_1,rfl,rfl,HA,HK1,HO_3,HO_12,HB⟩:=hrel
   cases gk with
   | zero=>exact absurd HA.out (by simp [dZ])
   | succ k1 =>
    have H:=HA.out
    clear HA
    simp only [dZ] at H
    rcases eV H with ⟨c8b0,H⟩|⟨c8b0,H⟩
    ·obtain ⟨c9b0,H⟩:=cV H
     obtain ⟨c10b0,H⟩:=cV H
     obtain ⟨c11,H⟩:=JQ H
     have c11b0:((t102.length:Int)==0)=false:=beq_eq_false_iff_ne.mpr c11
     have c11b1:((t102.length:Int) != 0)=true:=bne_iff_ne.mpr c11
     have c11b2:¬ (t102=[]):=fun h_=>c11 (by rw [h_];rfl)
     obtain ⟨ji12,hji12⟩:∃ j_:Int,(Int.tmod (wrap64 (x14_1+1)) (t102.length:Int))=j_:=⟨_,rfl⟩
     replace H:(if 0≤(ji12) then (if (ji12)<(t102.length:Int) then ((impl_OnEdge.f k1 ((aC t102 x14_1).f0) ((aC t102 x14_1).f1) ((aC t102 (ji12)).f0) ((aC t102 (ji12)).f1)).bind fun t108=>(dZ k1 t102 (wrap64 (x4_1+t108)) t102 (t102.length:Int) (wrap64 (x14_1+1)))) else (none)) else (none))=some r:=by first|(rw [hji12] at H;exact H)|(simp only [hji12] at H ⊢;exact H)
     obtain ⟨c13b0,H⟩:=cV H
     obtain ⟨c14b0,H⟩:=cV H
     replace H:=eM H
     obtain ⟨t108,A15,H⟩:=H
     have H':=aE H
     clear H
     obtain ⟨p105,q105,ad105,e105,hx105_0,hx105_1⟩:=jP (bW (Kd.R_reads' HO_12.out).2.2 x14_1)
     cases e105
     try go_wp2_with (first|((with_reducible refine aN (N:=6) rfl ?_);refine bV (N:=6) #[.int .i64 0,.int .i64 0] 28 ?_;intro gb106 hg w16 hbox hb;replace HO_3:=aE (Kd.R_below (Kd.R_elderB (bN HO_3) gb106 (Nat.le_of_eq hg.symm)) hb);replace HO_12:=aE (Kd.R_below (Kd.R_elderB (bN HO_12) gb106 (Nat.le_of_eq hg.symm)) hb);have BK106:=aE (hbox);have GW106:=aE ((dX HB hg));have GE106:=aE ((dX HB hg));replace HB:=aE (aD (aX HB) hb);clear hb hbox hg;have hcz17_0:=aW BK106 0;have hcz17_1:=aW BK106 1;have hfz17_0:=aA BK106.out 0;have hfz17_1:=aA BK106.out 1))
     replace HO_3:Aside0 (Kd.R jW 28 ((w16.setCell ⟨gb106,0,none⟩ (.int .i64 ((aC t102 x14_1).f0))).setCell ⟨gb106,1,none⟩ (.int .i64 ((aC t102 x14_1).f1))) w.heap.size (fun k_=>k_≠gb106) (.slice (some ad105) t102.length co7) t102):=⟨by (with_reducible repeat (first|apply kD|apply kE|apply gU));exact Kd.R_mono (Kd.R_far (p:=⟨gb106,1,none⟩) (Kd.R_far (p:=⟨gb106,0,none⟩) (Kd.R_mono HO_3.out (fun k_ hk=>(⟨hk,hk.2⟩:_∧k_≠gb106))) (fun _ hk=>hk.2) (.int .i64 ((aC t102 x14_1).f0))) (fun _ hk=>hk.2) (.int .i64 ((aC t102 x14_1).f1))) (fun _ hk=>hk.1.2)⟩
     replace HO_12:Aside0 (Kd.R jW 28 ((w16.setCell ⟨gb106,0,none⟩ (.int .i64 ((aC t102 x14_1).f0))).setCell ⟨gb106,1,none⟩ (.int .i64 ((aC t102 x14_1).f1))) w.heap.size (fun k_=>k_≠gb106) (.slice (some ad105) t102.length co7) t102):=⟨by (with_reducible repeat (first|apply kD|apply kE|apply gU));exact Kd.R_mono (Kd.R_far (p:=⟨gb106,1,none⟩) (Kd.R_far (p:=⟨gb106,0,none⟩) (Kd.R_mono HO_12.out (fun k_ hk=>(⟨hk,hk.2⟩:_∧k_≠gb106))) (fun _ hk=>hk.2) (.int .i64 ((aC t102 x14_1).f0))) (fun _ hk=>hk.2) (.int .i64 ((aC t102 x14_1).f1))) (fun _ hk=>hk.1.2)⟩
     replace BK106:Aside0 (((w16.setCell ⟨gb106,0,none⟩ (.int .i64 ((aC t102 x14_1).f0))).setCell ⟨gb106,1,none⟩ (.int .i64 ((aC t102 x14_1).f1))).heap[gb106]? = some (.cells #[.int .i64 ((aC t102 x14_1).f0),.int .i64 ((aC t102 x14_1).f1)] 28 (0,0))):=⟨jR BK106⟩
     replace HB:Aside0 (Below w.heap.size w ((w16.setCell ⟨gb106,0,none⟩ (.int .i64 ((aC t102 x14_1).f0))).setCell ⟨gb106,1,none⟩ (.int .i64 ((aC t102 x14_1).f1)))):=⟨aX HB⟩
     generalize ((w16.setCell ⟨gb106,0,none⟩ (.int .i64 ((aC t102 x14_1).f0))).setCell ⟨gb106,1,none⟩ (.int .i64 ((aC t102 x14_1).f1)))=w18 at HO_3 HO_12 BK106 HB ⊢
     replace HO_3:=aE (gU HO_3.out)
     replace HO_12:=aE (gU HO_12.out)
     replace BK106:=aE (aI BK106.out)
     replace HB:=aE (jK HB.out)
     obtain ⟨p107,q107,ad107,e107,hx107_0,hx107_1⟩:=jP (bW (Kd.R_reads' HO_3.out).2.2 (ji12))
     obtain rfl:ad105=ad107:=(by injection e107)
     refine dA (n:=13) (S:=fun w'=>w'.cell? ⟨gb106,0,none⟩=some (.int .i64 ((aC t102 x14_1).f0))∧w'.cell? ⟨gb106,1,none⟩=some (.int .i64 ((aC t102 x14_1).f1))∧w'.cell? (ad105.add (((ji12)).toNat*2))=some (.int .i64 ((aC t102 (ji12)).f0))∧w'.cell? ⟨(ad105.add (((ji12)).toNat*2)).block,(ad105.add (((ji12)).toNat*2)).off+1,none⟩=some (.int .i64 ((aC t102 (ji12)).f1))) (ds:=[]) (bm 13 0) (by kernel_rfl) rfl rfl ⟨aW BK106 0,aW BK106 1,hx107_0,hx107_1⟩ (fun hHeld=>?_);refine bO vD uL (fun HT_ HW_=>?_)
     generalize w18.drew=w19 at HO_3 HO_12 BK106 HB hx107_0 hx107_1 hHeld ⊢
     refine bU ((0,0,19,1)::(0,2,21,5)::(0,3,22,13)::(0,4,23,29)::(0,5,24,61)::(0,6,25,125)::(0,7,26,253)::(0,8,27,509)::(2,1,20,511)::(2,9,28,1023)::[]) ?_
     iterate 10 (first|refine jT HT_ ?_|refine pZ HT_ HW_ hHeld ?_)
     refine aU ?_
     refine dQ (i:=10) (N:=some 29) (bm 13 2047) rfl rfl (bJ HT_.out (by kernel_rfl)) (by decide) (fun K hK=>?_)
     refine yR Tryz.func14 (by kernel_rfl) rfl #[.agg #[.int .i64 ((aC t102 x14_1).f0),.int .i64 ((aC t102 x14_1).f1)],.agg #[.int .i64 ((aC t102 (ji12)).f0),.int .i64 ((aC t102 (ji12)).f1)]] (by rfl) rfl rfl (by (try simp only [List.map_toArray,List.map_cons,List.map_nil]);first|done|(simp only [hji12];rfl)|rfl|(simp only [List.length_drop,List.length_take];rfl)) ?_
     with_reducible refine (jL k1 ((aC t102 x14_1).f0) ((aC t102 x14_1).f1) ((aC t102 (ji12)).f0) ((aC t102 (ji12)).f1) t108 _ A15.out).mono ?_
     rintro e w20 ⟨rfl,hb⟩
     have HS2_:=uV hb hHeld.2.2.1
     have HS3_:=uV hb hHeld.2.2.2
     refine ⟨_,rfl,?_⟩
     replace HO_3:=aE (Kd.R_below (bN HO_3) hb)
     replace HO_12:=aE (Kd.R_below (bN HO_12) hb)
     replace BK106:=aE (bB BK106 hb)
     replace HB:=aE (aD (aX HB) hb)
     (try clear hb)
     (try clear hk)
     refine hK.out _ _ ⟨aW BK106 0,aW BK106 1,HS2_,HS3_⟩ (fun hHeld=>?_)
     clear hK K
     refine gA ?_
     refine bU ((0,11,30,4095)::(0,12,4,8191)::[]) ?_
     iterate 2 (first|refine jT HT_ ?_)
     refine aU ?_
     refine eN (cK HT_.out (by kernel_rfl)) ?_
     try go_wp2
     go_roundg k1
     case measure=>have:=HK1.out;omega
     case rel=>exact ⟨(wrap64 (x4_1+t108)),(wrap64 (x14_1+1)),aH,aH,H',⟨by have:=HK1.out;omega⟩,⟨by (with_reducible repeat (first|apply kD|apply kE|apply gU));exact Kd.R_mono HO_3.out (fun _ hk=>trivial)⟩,⟨by (with_reducible repeat (first|apply kD|apply kE|apply gU));exact Kd.R_mono HO_12.out (fun _ hk=>trivial)⟩,⟨aX HB⟩⟩
    ·obtain rfl:=Option.some.inj H
     go_wp2
     go_ret
     exact ⟨bP,aX HB⟩
 ·replace c3:=Bool.eq_false_iff.mpr c3
  subst c3
  rw [if_neg (show ¬ (false=true) by decide)] at H
  obtain rfl:=Option.some.inj H
  go_enter Tryz.func7,Tryz.ntmps7
  go_wp2_with (first|((with_reducible refine aJ (f:=30) rfl ?_);refine aV (some 8) Tryz.func30 #[.slice A0 l0.length c0] ?_;(with_reducible refine (cA k _ _ l0 false _ ?side1 ?side2 A2.out).mono ?_);(case side1=>exact kJ HR0.out);(case side2=>exact HC0.out);rintro e w21 ⟨rfl,hb⟩;refine ⟨_,rfl,?_⟩;replace HB:=aE (aD (aX HB) hb);(try clear hb);(try clear hk)))
  go_ret
  exact ⟨bP,aX HB⟩
end Go.Proofs.YteaagaekdkolnaaGreat.P

