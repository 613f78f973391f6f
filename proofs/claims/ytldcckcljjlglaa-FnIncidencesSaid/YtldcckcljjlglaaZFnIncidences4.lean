/- A part of the proof of FnIncidences: printed contracts and plain laws, joined by a program of this session. -/
import Derived.Test.YtldcckcljjlglaaZFnIncidences3
namespace Go.Proofs.Ytldcckcljjlglaa.P
open Go.RowKit Go.Proofs.YtldcckcljjlglaaW.PrintWords Go.Proofs.YtldcckcljjlglaaW.PrintLast Go.Proofs.YtldcckcljjlglaaW.PrintMore
attribute [local go_sem] max2_int min2_int max_two min_two max_three min_three max_four min_four
set_option linter.unusedVariables false
set_option linter.unusedSimpArgs false
/-! ### spec_DrawPappusOf: function 79 -/
def spec_DrawPappusOf.f (k:Nat) (l0:List Int):Option ((List (dB))):=(spec_l1New.f k l0).bind fun bt101=>((spec_l2Draw.f k bt101.1 bt101.2.1 bt101.2.2).bind fun bt105=>(if 0<(bt105.1.length:Int) then ((spec_l1Below.f bt101.1 bt105.2.1 bt105.2.2 2).bind fun bt112=>((spec_l1Below.f bt101.1 bt112.2.1 bt112.2.2 3).bind fun bt115=>(if 2<(bt105.1.length:Int) then ((spec_l1Below.f bt101.1 bt115.2.1 bt115.2.2 3).bind fun bt121=>((spec_l1Below.f bt101.1 bt121.2.1 bt121.2.2 2).bind fun bt124=>((spec_l1Below.f bt101.1 bt124.2.1 bt124.2.2 3).bind fun bt128=>((spec_l26Far.f ((aA bt105.1 0).f0) ((aA bt105.1 0).f1) (wrap64 ((wrap64 (((aA bt105.1 0).f0)+1))+bt112.1)) (wrap64 ((wrap64 (((aA bt105.1 0).f1)+bt115.1))-1)) (wrap64 (2+bt128.1))).bind fun bt131=>((spec_l1Below.f bt101.1 bt128.2.1 bt128.2.2 3).bind fun bt133=>((spec_l26Far.f ((aA bt105.1 2).f0) ((aA bt105.1 2).f1) (wrap64 ((wrap64 (((aA bt105.1 2).f0)+bt121.1))-1)) (wrap64 ((wrap64 (((aA bt105.1 2).f1)+1))+bt124.1)) (wrap64 (2+bt133.1))).bind fun bt136=>((some (([(⟨(aA bt105.1 0).f0,(aA bt105.1 0).f1⟩:dB),(⟨wrap64 ((wrap64 (((aA bt105.1 0).f0)+1))+bt112.1),wrap64 ((wrap64 (((aA bt105.1 0).f1)+bt115.1))-1)⟩:dB),(⟨bt131.1,bt131.2⟩:dB),(⟨(aA bt105.1 2).f0,(aA bt105.1 2).f1⟩:dB),(⟨wrap64 ((wrap64 (((aA bt105.1 2).f0)+bt121.1))-1),wrap64 ((wrap64 (((aA bt105.1 2).f1)+1))+bt124.1)⟩:dB),(⟨bt136.1,bt136.2⟩:dB)]:List (dB)):List (dB))).bind fun y138=>((spec_l1Once.f bt101.1 bt133.2.1 bt133.2.2 8).bind fun bt141=>(if bt141.1=true then (if 1<(bt105.1.length:Int) then (if 2<(y138.length:Int) then ((some (y138.set (2:Int).toNat (⟨(aA bt105.1 1).f0,(aA bt105.1 1).f1⟩:dB):List (dB))).bind fun y145=>((spec_l1Once.f bt101.1 bt141.2.1 bt141.2.2 16).bind fun bt146=>(if bt146.1=true then (if 5≤(y138.length:Int) then (some (y145.take (5:Int).toNat)) else (none)) else (some y145)))) else (none)) else (none)) else ((spec_l1Once.f bt101.1 bt141.2.1 bt141.2.2 16).bind fun bt152=>(if bt152.1=true then (if 5≤(y138.length:Int) then (some (y138.take (5:Int).toNat)) else (none)) else (some y138)))))))))))) else (none)))) else (none)))
def kB:Bool×List (List Nat×List Nat):=(true,[([],[]),([0],[0]),([1],[1]),([],[]),([3],[3]),([2,4],[2,4]),([],[]),([6],[6]),([],[]),([8,4],[8]),([7,9],[7,9]),([10],[10]),([5,11],[5,11]),([],[]),([13,12,9,0,1,2,3,4,5,6,7,8,9,10,11,12,13],[12,13])])
def oQ:List Nat:=[0,1,3,0,8,31,0,64,0,280,984,2008,4095,0,16383]
theorem nP:gK .any (iQ Try.f79 4)=kB:=by kernel_rfl
theorem mN:eU kB.2 oQ=true:=by kernel_rfl
def kC:Bool×List (List Nat×List Nat):=(true,[([],[]),([0],[0]),([],[]),([2],[2]),([1,3],[1,3]),([4],[4]),([],[]),([6],[6]),([7],[7]),([],[]),([9,3],[9]),([8,10],[8,10]),([5,11],[5,11]),([],[]),([13,12,10,0,1,2,3,4,5,6,7,8,9,10,11,12,13],[12,13])])
def oR:List Nat:=[0,1,0,4,15,31,0,64,192,0,524,1996,4095,0,16383]
theorem nQ:gK .any (iQ Try.f79 6)=kC:=by kernel_rfl
theorem mO:eU kC.2 oR=true:=by kernel_rfl
def kD:Bool×List (List Nat×List Nat):=(true,[([],[]),([],[]),([],[]),([],[]),([],[]),([4],[4]),([5],[5]),([2,3,6,5],[2,3,6]),([],[]),([],[]),([],[]),([],[]),([],[]),([12,7],[12]),([13],[13]),([10,11,14,13],[10,11,14]),([0,1,7,8,9,15],[0,1,7,8,9,15]),([16,15,0,1,2,3,4,5,6,7,8,9,10,11,12,13,14,15,16],[16])])
def oS:List Nat:=[0,0,0,0,0,16,48,124,0,0,0,0,0,4348,12540,31996,65535,131071]
theorem nR:gK .any (iQ Try.f79 7)=kD:=by kernel_rfl
theorem mP:eU kD.2 oS=true:=by kernel_rfl
set_option maxHeartbeats 8000000 in
set_option maxRecDepth 100000 in
theorem mQ (k:Nat) (A0:Option Addr) (c0:Nat) (l0:List Int) (r:List (dB)) (w:World) (hr0:Kd.C (Kd.int .u8) w A0 l0.length l0) (hc0:l0.length≤c0) (h:spec_DrawPappusOf.f k l0=some r) :
  Calls Try.prog 79 #[.slice A0 l0.length c0] w fun e w'=>∃ v0_:Value,e=.returned (v0_)∧Kd.R gA 80 w' w.heap.size (fun _=>True) v0_ r∧Below w.heap.size w w':=by
 have hu80:=Try.underlying80
 have HR0:=aD hr0
 have HC0:=aD hc0
 clear hr0 hc0
 have HB:=aD (Below.refl w.heap.size w)
 unfold spec_DrawPappusOf.f at h
 have H:=h
 clear h
 replace H:=fQ H
 obtain ⟨⟨t101,t102,t103⟩,A2,H⟩:=H
 try dsimp only at H
 replace H:=fQ H
 obtain ⟨⟨t105,t108,t109⟩,A3,H⟩:=H
 try dsimp only at H
 obtain ⟨c4,H⟩:=iC H
 have c4b0:=decide_eq_true c4
 have c4b1:decide (0<t105.length)=true:=decide_eq_true (by omega)
 clear c4
 replace H:=fQ H
 obtain ⟨⟨t112,t113,t114⟩,A5,H⟩:=H
 try dsimp only at H
 replace H:=fQ H
 obtain ⟨⟨t115,t116,t117⟩,A6,H⟩:=H
 try dsimp only at H
 obtain ⟨c7,H⟩:=iC H
 have c7b0:=decide_eq_true c7
 have c7b1:decide (2<t105.length)=true:=decide_eq_true (by omega)
 clear c7
 replace H:=fQ H
 obtain ⟨⟨t121,t122,t123⟩,A8,H⟩:=H
 try dsimp only at H
 replace H:=fQ H
 obtain ⟨⟨t124,t125,t126⟩,A9,H⟩:=H
 try dsimp only at H
 replace H:=fQ H
 obtain ⟨⟨t128,t129,t130⟩,A10,H⟩:=H
 try dsimp only at H
 replace H:=fQ H
 obtain ⟨⟨t131,t132⟩,A11,H⟩:=H
 try dsimp only at H
 replace H:=fQ H
 obtain ⟨⟨t133,t134,t135⟩,A12,H⟩:=H
 try dsimp only at H
 replace H:=fQ H
 obtain ⟨⟨t136,t137⟩,A13,H⟩:=H
 try dsimp only at H
 obtain ⟨y138,hy138⟩:∃ y_:List (dB),y_=(([(⟨(aA t105 0).f0,(aA t105 0).f1⟩:dB),(⟨wrap64 ((wrap64 (((aA t105 0).f0)+1))+t112),wrap64 ((wrap64 (((aA t105 0).f1)+t115))-1)⟩:dB),(⟨t131,t132⟩:dB),(⟨(aA t105 2).f0,(aA t105 2).f1⟩:dB),(⟨wrap64 ((wrap64 (((aA t105 2).f0)+t121))-1),wrap64 ((wrap64 (((aA t105 2).f1)+1))+t124)⟩:dB),(⟨t136,t137⟩:dB)]:List (dB))):=⟨_,rfl⟩
 first|(with_reducible replace H:=uU hy138 H)|(with_reducible replace H:=uV hy138 H)|rw [← hy138] at H
 have Ny138:=aD hy138
 clear hy138
 replace H:=fQ H
 obtain ⟨⟨t141,t142,t143⟩,A14,H⟩:=H
 try dsimp only at H
 have HKEEP:=aD H
 clear H
 go_enter Try.func79,Try.ntmps79
 try go_wp2_with (first|((with_reducible refine aV (f:=99) rfl ?_);refine bK (some 11) Try.func99 #[.slice A0 l0.length c0] ?_;(with_reducible refine (fI k _ _ l0 t101 t102 t103 w _ ?side1 ?side2 ?side3 A2.out).mono ?_);(case side1=>exact bM HB);(case side2=>exact HR0.out);(case side3=>exact HC0.out);rintro e w22 ⟨g104,rfl,hi,hb,hb2⟩;refine ⟨_,rfl,?_⟩;replace HB:=aD (hb);have HI104:=aD (hi);(try clear hb);(try clear hb2);(try clear hk);(try clear hi))|((with_reducible refine aV (f:=137) rfl ?_);refine bK (some 13) Try.func137 #[.pointer (some ⟨g104,0,none⟩)] ?_;(with_reducible refine (jE k g104 t101 t102 t103 t105 t108 t109 w _ ?side1 ?side2 A3.out).mono ?_);(case side1=>exact aR HI104);(case side2=>exact cM HB (aJ HI104.out));rintro e w23 ⟨v106,rfl,ho0,hi,hb,hk⟩;refine ⟨_,rfl,?_⟩;have HO107:=aD (Kd.R_lower ho0 (aM (cM HB (aJ HI104.out))));replace HB:=aD (hb);replace HI104:=aD (hi);(try clear hb);(try clear hb2);(try clear hk);(try clear hi);(try clear ho0);obtain ⟨Ao24,co24,eo24⟩:=Kd.R_slice HO107.out;subst eo24;have p110:0≤(0:Int):=(by omega);have q110:0<(t105.length:Int):=dX;obtain ⟨ad110,e110,hx110_0,hx110_1⟩:=cC (Kd.R_reads' HO107.out).2.2 0 p110 q110;cases e110;have qi110:(0<t105.length)=True:=eq_true (by omega);(try rw [show ((0:Int)).toNat=0 from rfl] at hx110_0);(try rw [show 0*2=0 from rfl] at hx110_0);(try rw [Addr.add_zero'] at hx110_0);(try rw [show ((0:Int)).toNat=0 from rfl] at hx110_1);(try rw [show 0*2=0 from rfl] at hx110_1);(try rw [Addr.add_zero'] at hx110_1);replace p110:=eq_true p110;replace q110:=eq_true q110)|((with_reducible refine aW (N:=5) rfl ?_);refine bS (N:=5) #[.int .i64 0,.int .i64 0] 80 ?_;intro gb111 hg w25 hbox hb;replace HO107:=aD (Kd.R_below (Kd.R_elderB (bN HO107) gb111 (Nat.le_of_eq hg.symm)) hb);have BK111:=aD (hbox);have GW111:=aD ((by rw [hg];exact (aM (cM HB (aJ HI104.out))):w.heap.size≤gb111));have GE111:=aD ((by rw [hg];exact (aM (cM HB (aJ HI104.out))):w.heap.size≤gb111));replace HB:=aD (aE (cM HB (aJ HI104.out)) hb);have NB104_111:=aD ((by rw [hg];exact Nat.ne_of_lt (bF (show aX w _ g104 t101 t108 t109 from aR HI104)):g104≠gb111));have NB111_104:=aD ((by rw [hg];exact Nat.ne_of_gt (bF (show aX w _ g104 t101 t108 t109 from aR HI104)):gb111≠g104));replace HI104:=aD (aX.below (aR HI104) hb);clear hb hbox hg;have hnb26:=NB111_104.out;have hnc26:=NB104_111.out;have hcz27_0:=aT BK111 0;have hcz27_1:=aT BK111 1;have hfz27_0:=aC BK111.out 0;have hfz27_1:=aC BK111.out 1))
 replace HO107:Aside0 (Kd.R gA 80 ((w25.setCell ⟨gb111,0,none⟩ (.int .i64 ((aA t105 0).f0))).setCell ⟨gb111,1,none⟩ (.int .i64 ((aA t105 0).f1))) w.heap.size (fun k_=>k_≠gb111) (.slice (some ad110) t105.length co24) t105):=⟨by (with_reducible repeat (first|apply fK|apply gF|apply eQ));exact Kd.R_mono (Kd.R_far (p:=⟨gb111,1,none⟩) (Kd.R_far (p:=⟨gb111,0,none⟩) (Kd.R_mono HO107.out (fun k_ hk=>(⟨hk,hk.2⟩:_∧k_≠gb111))) (fun _ hk=>hk.2) (.int .i64 ((aA t105 0).f0))) (fun _ hk=>hk.2) (.int .i64 ((aA t105 0).f1))) (fun _ hk=>hk.1.2)⟩
 replace BK111:Aside0 (((w25.setCell ⟨gb111,0,none⟩ (.int .i64 ((aA t105 0).f0))).setCell ⟨gb111,1,none⟩ (.int .i64 ((aA t105 0).f1))).heap[gb111]? = some (.cells #[.int .i64 ((aA t105 0).f0),.int .i64 ((aA t105 0).f1)] 80 (0,0))):=⟨eW BK111⟩
 replace HB:Aside0 (Below w.heap.size w ((w25.setCell ⟨gb111,0,none⟩ (.int .i64 ((aA t105 0).f0))).setCell ⟨gb111,1,none⟩ (.int .i64 ((aA t105 0).f1)))):=⟨cM HB (aJ HI104.out)⟩
 replace HI104:Aside0 (aX w ((w25.setCell ⟨gb111,0,none⟩ (.int .i64 ((aA t105 0).f0))).setCell ⟨gb111,1,none⟩ (.int .i64 ((aA t105 0).f1))) g104 t101 t108 t109):=⟨aR HI104⟩
 generalize ((w25.setCell ⟨gb111,0,none⟩ (.int .i64 ((aA t105 0).f0))).setCell ⟨gb111,1,none⟩ (.int .i64 ((aA t105 0).f1)))=w28 at HO107 BK111 HI104 HB ⊢
 replace HO107:=aD (eQ HO107.out)
 replace BK111:=aD (aK BK111.out)
 replace HI104:=aD (aX.drew HI104.out)
 replace HB:=aD (lC HB.out)
 refine eE (n:=15) (S:=fun w'=>w'.cell? ⟨gb111,0,none⟩=some (.int .i64 ((aA t105 0).f0))∧w'.cell? ⟨gb111,1,none⟩=some (.int .i64 ((aA t105 0).f1))) (ds:=[]) (bm 15 0) (by kernel_rfl) rfl rfl ⟨aT BK111 0,aT BK111 1⟩ (fun hHeld=>?_);refine cX nP mN (fun HT_ HW_=>?_)
 generalize w28.drew=w29 at HO107 BK111 HI104 HB hHeld ⊢
 refine dG ((0,0,17,1)::(0,3,20,9)::(0,6,23,73)::(0,8,25,329)::(2,1,18,331)::(0,2,19,335)::(2,7,24,463)::[]) ?_
 iterate 7 (first|refine jT HT_ ?_|refine qB HT_ HW_ hHeld ?_)
 refine bL ?_
 refine sO (σ:=Nat) 1 (bm 15 16383) (fun s_=>[(21,.int .i64 t112),(26,.int .i64 t115),(6,.pointer (some ⟨s_,0,none⟩)),(22,.int .i64 (wrap64 ((wrap64 (((aA t105 0).f0)+1))+t112))),(27,.int .i64 (wrap64 (((aA t105 0).f1)+t115))),(28,.int .i64 (wrap64 ((wrap64 (((aA t105 0).f1)+t115))-1))),(29,.agg #[.int .i64 (wrap64 ((wrap64 (((aA t105 0).f0)+1))+t112)),.int .i64 (wrap64 ((wrap64 (((aA t105 0).f1)+t115))-1))])]) (fun s_ w'=>(w'.cell? ⟨gb111,0,none⟩=some (.int .i64 ((aA t105 0).f0))∧w'.cell? ⟨gb111,1,none⟩=some (.int .i64 ((aA t105 0).f1)))∧(Kd.R gA 80 w' w.heap.size (fun k_=>k_≠gb111∧k_≠s_) (.slice (some ad110) t105.length co24) t105)∧(w'.heap[gb111]? = some (.cells #[.int .i64 ((aA t105 0).f0),.int .i64 ((aA t105 0).f1)] 80 (0,0)))∧(w'.heap[s_]? = some (.cells #[.int .i64 0,.int .i64 0] 80 (0,0)))∧(w.heap.size≤s_)∧(w.heap.size≤s_)∧(g104≠s_)∧(s_≠g104)∧(gb111≠s_)∧(s_≠gb111)∧(aX w w' g104 t101 t116 t117)∧(Below w.heap.size w w')) ?_ ?_
 rotate_left
 ·intro hCont
  refine mF (i:=4) (j:=13) (Ni:=some 21) (Nj:=some 6) (bm 15 479) (bm 15 8655) rfl rfl rfl rfl (gV HT_.out (by kernel_rfl)) (by decide) (by decide) (fun K hK=>?_) (fun K hK=>?_)
  ·skip
   refine bP Try.func109 #[.pointer (some ⟨g104,0,none⟩),.int .i64 2] ?_
   with_reducible refine (bE g104 t101 t108 t109 2 t112 t113 t114 w _ ?side1 ?side2 A5.out).mono ?_
   (case side1=>exact aR HI104)
   (case side2=>exact cM HB (aJ HI104.out))
   rintro e w30 ⟨rfl,hi,hb,hk⟩
   refine ⟨_,rfl,?_⟩
   replace HO107:=aD (Kd.R_mono (Kd.R_keep (aX.apart (show aX w _ g104 t101 t108 t109 from aR HI104) (bN HO107) (by decide)) hk (fun _ h=>h.2)) (fun _ h=>h.1))
   replace BK111:=aD (dO.blk hk (g':=gb111) (o:=.cells #[.int .i64 ((aA t105 0).f0),.int .i64 ((aA t105 0).f1)] 80 (0,0)) (cF BK111) NB111_104.out (by simp))
   replace HB:=aD (hb)
   replace HI104:=aD (hi)
   (try clear hb)
   (try clear hb2)
   (try clear hk)
   (try clear hi)
   refine hK.out _ _ ⟨aT BK111 0,aT BK111 1⟩ (fun hHeld=>?_)
   clear hK K
   refine cW (some 21) ?_
   refine dG ((0,5,22,511)::[]) ?_
   iterate 1 (first|refine jT HT_ ?_)
   refine bL ?_
   refine mF (i:=9) (j:=13) (Ni:=some 26) (Nj:=some 6) (bm 15 1023) (bm 15 8703) rfl rfl rfl rfl (gV HT_.out (by kernel_rfl)) (by decide) (by decide) (fun K hK=>?_) (fun K hK=>?_)
   ·skip
    refine bP Try.func109 #[.pointer (some ⟨g104,0,none⟩),.int .i64 3] ?_
    with_reducible refine (bE g104 t101 t113 t114 3 t115 t116 t117 w _ ?side1 ?side2 A6.out).mono ?_
    (case side1=>exact aR HI104)
    (case side2=>exact cM HB (aJ HI104.out))
    rintro e w31 ⟨rfl,hi,hb,hk⟩
    refine ⟨_,rfl,?_⟩
    replace HO107:=aD (Kd.R_mono (Kd.R_keep (aX.apart (show aX w _ g104 t101 t113 t114 from aR HI104) (bN HO107) (by decide)) hk (fun _ h=>h.2)) (fun _ h=>h.1))
    replace BK111:=aD (dO.blk hk (g':=gb111) (o:=.cells #[.int .i64 ((aA t105 0).f0),.int .i64 ((aA t105 0).f1)] 80 (0,0)) (cF BK111) NB111_104.out (by simp))
    replace HB:=aD (hb)
    replace HI104:=aD (hi)
    (try clear hb)
    (try clear hb2)
    (try clear hk)
    (try clear hi)
    refine hK.out _ _ ⟨aT BK111 0,aT BK111 1⟩ (fun hHeld=>?_)
    clear hK K
    refine cW (some 26) ?_
    refine dG ((0,10,27,2047)::(0,11,28,4095)::(0,12,29,8191)::[]) ?_
    iterate 3 (first|refine jT HT_ ?_)
    refine bL ?_
    refine cS (i:=13) (N:=some 6) (bm 15 16383) rfl rfl (bI HT_.out (by kernel_rfl)) (by decide) (fun K hK=>?_)
    refine dQ ?hg (N:=6) ?hd (cs:=#[.int .i64 0,.int .i64 0]) (t:=80) ?hr ?_;(case hd=>rfl);(case hg=>rfl);(case hr=>first|(go_simp;done)|(go_simp;rfl))
    intro gb118 hg w32 hbox hb
    replace HO107:=aD (Kd.R_below (Kd.R_elderB (bN HO107) gb118 (Nat.le_of_eq hg.symm)) hb)
    have BK118:=aD (hbox)
    have GW118:=aD ((by rw [hg];exact (aM (cM HB (aJ HI104.out))):w.heap.size≤gb118))
    have GE118:=aD ((by rw [hg];exact (aM (cM HB (aJ HI104.out))):w.heap.size≤gb118))
    replace HB:=aD (aE (cM HB (aJ HI104.out)) hb)
    have NB111_118:=aD ((bW BK111 hg))
    have NB118_111:=aD ((bX BK111 hg))
    replace BK111:=aD (aU BK111 hb)
    have NB104_118:=aD ((by rw [hg];exact Nat.ne_of_lt (bF (show aX w _ g104 t101 t116 t117 from aR HI104)):g104≠gb118))
    have NB118_104:=aD ((by rw [hg];exact Nat.ne_of_gt (bF (show aX w _ g104 t101 t116 t117 from aR HI104)):gb118≠g104))
    replace HI104:=aD (aX.below (aR HI104) hb)
    clear hb hbox hg
    refine hK.out _ _ ⟨aT BK111 0,aT BK111 1⟩ (fun hHeld=>?_)
    clear hK K
    refine cW (some 6) ?_
    exact fP (by simp only [eC,Act.put,List.setIfInBounds_toArray,List.set_cons_zero,List.set_cons_succ]) (hCont (gb118) _ ⟨hHeld,(bN HO107),(cF BK111),(cF BK118),GW118.out,GE118.out,NB104_118.out,NB118_104.out,NB111_118.out,NB118_111.out,(aR HI104),(cM HB (aJ HI104.out))⟩)
   ·skip
    refine dQ ?hg (N:=6) ?hd (cs:=#[.int .i64 0,.int .i64 0]) (t:=80) ?hr ?_;(case hd=>rfl);(case hg=>rfl);(case hr=>first|(go_simp;done)|(go_simp;rfl))
    intro gb118 hg w31 hbox hb
    replace HO107:=aD (Kd.R_below (Kd.R_elderB (bN HO107) gb118 (Nat.le_of_eq hg.symm)) hb)
    have BK118:=aD (hbox)
    have GW118:=aD ((by rw [hg];exact (aM (cM HB (aJ HI104.out))):w.heap.size≤gb118))
    have GE118:=aD ((by rw [hg];exact (aM (cM HB (aJ HI104.out))):w.heap.size≤gb118))
    replace HB:=aD (aE (cM HB (aJ HI104.out)) hb)
    have NB111_118:=aD ((bW BK111 hg))
    have NB118_111:=aD ((bX BK111 hg))
    replace BK111:=aD (aU BK111 hb)
    have NB104_118:=aD ((by rw [hg];exact Nat.ne_of_lt (bF (show aX w _ g104 t101 t113 t114 from aR HI104)):g104≠gb118))
    have NB118_104:=aD ((by rw [hg];exact Nat.ne_of_gt (bF (show aX w _ g104 t101 t113 t114 from aR HI104)):gb118≠g104))
    replace HI104:=aD (aX.below (aR HI104) hb)
    clear hb hbox hg
    refine hK.out _ _ ⟨aT BK111 0,aT BK111 1⟩ (fun hHeld=>?_)
    clear hK K
    refine cW (some 6) ?_
    refine cS (i:=9) (N:=some 26) (bm 15 9215) rfl rfl (bI HT_.out (by kernel_rfl)) (by decide) (fun K hK=>?_)
    refine bP Try.func109 #[.pointer (some ⟨g104,0,none⟩),.int .i64 3] ?_
    with_reducible refine (bE g104 t101 t113 t114 3 t115 t116 t117 w _ ?side1 ?side2 A6.out).mono ?_
    (case side1=>exact aR HI104)
    (case side2=>exact cM HB (aJ HI104.out))
    rintro e w32 ⟨rfl,hi,hb,hk⟩
    refine ⟨_,rfl,?_⟩
    replace HO107:=aD (Kd.R_mono (Kd.R_keep (aX.apart (show aX w _ g104 t101 t113 t114 from aR HI104) (bN HO107) (by decide)) hk (fun _ h=>h.2)) (fun _ h=>h.1))
    replace BK111:=aD (dO.blk hk (g':=gb111) (o:=.cells #[.int .i64 ((aA t105 0).f0),.int .i64 ((aA t105 0).f1)] 80 (0,0)) (cF BK111) NB111_104.out (by simp))
    replace BK118:=aD (dO.blk hk (g':=gb118) (o:=.cells #[.int .i64 0,.int .i64 0] 80 (0,0)) (cF BK118) NB118_104.out (by simp))
    replace HB:=aD (hb)
    replace HI104:=aD (hi)
    (try clear hb)
    (try clear hb2)
    (try clear hk)
    (try clear hi)
    refine hK.out _ _ ⟨aT BK111 0,aT BK111 1⟩ (fun hHeld=>?_)
    clear hK K
    refine cW (some 26) ?_
    refine dG ((0,10,27,10239)::(0,11,28,12287)::(0,12,29,16383)::[]) ?_
    iterate 3 (first|refine jT HT_ ?_)
    refine bL ?_
    exact fP (by simp only [eC,Act.put,List.setIfInBounds_toArray,List.set_cons_zero,List.set_cons_succ]) (hCont (gb118) _ ⟨hHeld,(bN HO107),(cF BK111),(cF BK118),GW118.out,GE118.out,NB104_118.out,NB118_104.out,NB111_118.out,NB118_111.out,(aR HI104),(cM HB (aJ HI104.out))⟩)
  ·skip
   refine dQ ?hg (N:=6) ?hd (cs:=#[.int .i64 0,.int .i64 0]) (t:=80) ?hr ?_;(case hd=>rfl);(case hg=>rfl);(case hr=>first|(go_simp;done)|(go_simp;rfl))
   intro gb118 hg w30 hbox hb
   replace HO107:=aD (Kd.R_below (Kd.R_elderB (bN HO107) gb118 (Nat.le_of_eq hg.symm)) hb)
   have BK118:=aD (hbox)
   have GW118:=aD ((by rw [hg];exact (aM (cM HB (aJ HI104.out))):w.heap.size≤gb118))
   have GE118:=aD ((by rw [hg];exact (aM (cM HB (aJ HI104.out))):w.heap.size≤gb118))
   replace HB:=aD (aE (cM HB (aJ HI104.out)) hb)
   have NB111_118:=aD ((bW BK111 hg))
   have NB118_111:=aD ((bX BK111 hg))
   replace BK111:=aD (aU BK111 hb)
   have NB104_118:=aD ((by rw [hg];exact Nat.ne_of_lt (bF (show aX w _ g104 t101 t108 t109 from aR HI104)):g104≠gb118))
   have NB118_104:=aD ((by rw [hg];exact Nat.ne_of_gt (bF (show aX w _ g104 t101 t108 t109 from aR HI104)):gb118≠g104))
   replace HI104:=aD (aX.below (aR HI104) hb)
   clear hb hbox hg
   refine hK.out _ _ ⟨aT BK111 0,aT BK111 1⟩ (fun hHeld=>?_)
   clear hK K
   refine cW (some 6) ?_
   refine cS (i:=4) (N:=some 21) (bm 15 8671) rfl rfl (bI HT_.out (by kernel_rfl)) (by decide) (fun K hK=>?_)
   refine bP Try.func109 #[.pointer (some ⟨g104,0,none⟩),.int .i64 2] ?_
   with_reducible refine (bE g104 t101 t108 t109 2 t112 t113 t114 w _ ?side1 ?side2 A5.out).mono ?_
   (case side1=>exact aR HI104)
   (case side2=>exact cM HB (aJ HI104.out))
   rintro e w31 ⟨rfl,hi,hb,hk⟩
   refine ⟨_,rfl,?_⟩
   replace HO107:=aD (Kd.R_mono (Kd.R_keep (aX.apart (show aX w _ g104 t101 t108 t109 from aR HI104) (bN HO107) (by decide)) hk (fun _ h=>h.2)) (fun _ h=>h.1))
   replace BK111:=aD (dO.blk hk (g':=gb111) (o:=.cells #[.int .i64 ((aA t105 0).f0),.int .i64 ((aA t105 0).f1)] 80 (0,0)) (cF BK111) NB111_104.out (by simp))
   replace BK118:=aD (dO.blk hk (g':=gb118) (o:=.cells #[.int .i64 0,.int .i64 0] 80 (0,0)) (cF BK118) NB118_104.out (by simp))
   replace HB:=aD (hb)
   replace HI104:=aD (hi)
   (try clear hb)
   (try clear hb2)
   (try clear hk)
   (try clear hi)
   refine hK.out _ _ ⟨aT BK111 0,aT BK111 1⟩ (fun hHeld=>?_)
   clear hK K
   refine cW (some 21) ?_
   refine dG ((0,5,22,8703)::[]) ?_
   iterate 1 (first|refine jT HT_ ?_)
   refine bL ?_
   refine cS (i:=9) (N:=some 26) (bm 15 9215) rfl rfl (bI HT_.out (by kernel_rfl)) (by decide) (fun K hK=>?_)
   refine bP Try.func109 #[.pointer (some ⟨g104,0,none⟩),.int .i64 3] ?_
   with_reducible refine (bE g104 t101 t113 t114 3 t115 t116 t117 w _ ?side1 ?side2 A6.out).mono ?_
   (case side1=>exact aR HI104)
   (case side2=>exact cM HB (aJ HI104.out))
   rintro e w32 ⟨rfl,hi,hb,hk⟩
   refine ⟨_,rfl,?_⟩
   replace HO107:=aD (Kd.R_mono (Kd.R_keep (aX.apart (show aX w _ g104 t101 t113 t114 from aR HI104) (bN HO107) (by decide)) hk (fun _ h=>h.2)) (fun _ h=>h.1))
   replace BK111:=aD (dO.blk hk (g':=gb111) (o:=.cells #[.int .i64 ((aA t105 0).f0),.int .i64 ((aA t105 0).f1)] 80 (0,0)) (cF BK111) NB111_104.out (by simp))
   replace BK118:=aD (dO.blk hk (g':=gb118) (o:=.cells #[.int .i64 0,.int .i64 0] 80 (0,0)) (cF BK118) NB118_104.out (by simp))
   replace HB:=aD (hb)
   replace HI104:=aD (hi)
   (try clear hb)
   (try clear hb2)
   (try clear hk)
   (try clear hi)
   refine hK.out _ _ ⟨aT BK111 0,aT BK111 1⟩ (fun hHeld=>?_)
   clear hK K
   refine cW (some 26) ?_
   refine dG ((0,10,27,10239)::(0,11,28,12287)::(0,12,29,16383)::[]) ?_
   iterate 3 (first|refine jT HT_ ?_)
   refine bL ?_
   exact fP (by simp only [eC,Act.put,List.setIfInBounds_toArray,List.set_cons_zero,List.set_cons_succ]) (hCont (gb118) _ ⟨hHeld,(bN HO107),(cF BK111),(cF BK118),GW118.out,GE118.out,NB104_118.out,NB118_104.out,NB111_118.out,NB118_111.out,(aR HI104),(cM HB (aJ HI104.out))⟩)
 rintro gb118 w33 ⟨hS_,h0_,h1_,h2_,h3_,h4_,h5_,h6_,h7_,h8_,h9_,h10_⟩
 have n0_:Aside0 (Kd.R gA 80 w33 w.heap.size (fun k_=>k_≠gb111∧k_≠gb118) (.slice (some ad110) t105.length co24) t105):=⟨h0_⟩
 have n1_:Aside0 (w33.heap[gb111]? = some (.cells #[.int .i64 ((aA t105 0).f0),.int .i64 ((aA t105 0).f1)] 80 (0,0))):=⟨h1_⟩
 have n2_:Aside0 (w33.heap[gb118]? = some (.cells #[.int .i64 0,.int .i64 0] 80 (0,0))):=⟨h2_⟩
 have n3_:Aside0 (w.heap.size≤gb118):=⟨h3_⟩
 have n4_:Aside0 (w.heap.size≤gb118):=⟨h4_⟩
 have n5_:Aside0 (g104≠gb118):=⟨h5_⟩
 have n6_:Aside0 (gb118≠g104):=⟨h6_⟩
 have n7_:Aside0 (gb111≠gb118):=⟨h7_⟩
 have n8_:Aside0 (gb118≠gb111):=⟨h8_⟩
 have n9_:Aside0 (aX w w33 g104 t101 t116 t117):=⟨h9_⟩
 have n10_:Aside0 (Below w.heap.size w w33):=⟨h10_⟩
 clear HO107
 clear BK111
 clear HI104
 clear HB
 clear h0_ h1_ h2_ h3_ h4_ h5_ h6_ h7_ h8_ h9_ h10_
 have HO107:=n0_
 have BK111:=n1_
 have BK118:=n2_
 have GW118:=n3_
 have GE118:=n4_
 have NB104_118:=n5_
 have NB118_104:=n6_
 have NB111_118:=n7_
 have NB118_111:=n8_
 have HI104:=n9_
 have HB:=n10_
 clear n0_ n1_ n2_ n3_ n4_ n5_ n6_ n7_ n8_ n9_ n10_
 have hHeld:w33.cell? ⟨gb111,0,none⟩=some (.int .i64 ((aA t105 0).f0))∧w33.cell? ⟨gb111,1,none⟩=some (.int .i64 ((aA t105 0).f1)):=hS_
 refine fP (a':=?_) ?_ ?_
 rotate_left
 ·simp only [eC,Act.put,List.setIfInBounds_toArray,List.set_cons_zero,List.set_cons_succ]
  rfl
 refine cS (i:=14) (N:=none) (bm 15 32767) rfl rfl (bI HT_.out (by kernel_rfl)) (by decide) (fun K hK=>?_)
 have hs34:w33.cell? ⟨gb118,0,none⟩=some (.int .i64 0):=aT BK118 0
 have hfs34:=aC BK118.out 0
 have hns34_0:=NB111_118.out
 have hms34_0:=NB118_111.out
 have hs35:w33.cell? ⟨gb118,1,none⟩=some (.int .i64 0):=aT BK118 1
 have hfs35:=aC BK118.out 1
 have hns35_0:=NB111_118.out
 have hms35_0:=NB118_111.out
 refine fW (w1:=?_) (by rfl) rfl ?_ ?_
 rotate_left
 ·go_simp
  rfl
 refine hK.out _ _ ⟨(cU NB111_118 ((cU NB111_118 hHeld.1))),(cU NB111_118 ((cU NB111_118 hHeld.2)))⟩ (fun hHeld=>?_)
 clear hK K
 refine dD (dZ HT_.out (by kernel_rfl)) ?_
 have p119:0≤(2:Int):=(by omega)
 have q119:2<(t105.length:Int):=dX
 obtain ⟨ad119,e119,hx119_0,hx119_1⟩:=cC (Kd.R_reads' HO107.out).2.2 2 p119 q119
 obtain rfl:ad110=ad119:=(by injection e119)
 (try simp only [show (2:Int).toNat=2 from rfl,Nat.reduceMul,Nat.reduceEqDiff,Go.Addr.add,↓reduceIte] at hx119_0)
 (try simp only [show (2:Int).toNat=2 from rfl,Nat.reduceMul,Nat.reduceEqDiff,Go.Addr.add,↓reduceIte] at hx119_1)
 have qi119:(2<t105.length)=True:=eq_true (by omega)
 (try rw [show ((2:Int)).toNat=2 from rfl] at hx119_0)
 (try rw [show 2*2=4 from rfl] at hx119_0)
 (try rw [show ((2:Int)).toNat=2 from rfl] at hx119_1)
 (try rw [show 2*2=4 from rfl] at hx119_1)
 have hn119_0:ad110.block≠gb118:=(by first|exact Kd.own_blk (Kd.R_ne HO107.out BK118.out (by decide))|exact (HO107.out.1 _ rfl).2|exact (HO107.out.1 _ rfl).1.2)
 have hn119_1:ad110.block≠gb118:=(by first|exact Kd.own_blk (Kd.R_ne HO107.out BK118.out (by decide))|exact (HO107.out.1 _ rfl).2|exact (HO107.out.1 _ rfl).1.2)
 replace hx119_0:=(kS (p:=⟨gb118,0,none⟩) (by first|(rw [cA];exact hn119_0)|(show (Addr.add _ _).block≠_;rw [cA];exact hn119_0)|exact hn119_0) (.int .i64 (wrap64 ((wrap64 (((aA t105 0).f0)+1))+t112)))).trans hx119_0
 replace hx119_1:=(kS (p:=⟨gb118,0,none⟩) (by first|(rw [cA];exact hn119_0)|(show (Addr.add _ _).block≠_;rw [cA];exact hn119_0)|exact hn119_0) (.int .i64 (wrap64 ((wrap64 (((aA t105 0).f0)+1))+t112)))).trans hx119_1
 replace hx119_0:=(kS (p:=⟨gb118,1,none⟩) (by first|(rw [cA];exact hn119_1)|(show (Addr.add _ _).block≠_;rw [cA];exact hn119_1)|exact hn119_1) (.int .i64 (wrap64 ((wrap64 (((aA t105 0).f1)+t115))-1)))).trans hx119_0
 replace hx119_1:=(kS (p:=⟨gb118,1,none⟩) (by first|(rw [cA];exact hn119_1)|(show (Addr.add _ _).block≠_;rw [cA];exact hn119_1)|exact hn119_1) (.int .i64 (wrap64 ((wrap64 (((aA t105 0).f1)+t115))-1)))).trans hx119_1
 clear hn119_0
 clear hn119_1
 replace p119:=eq_true p119
 replace q119:=eq_true q119
 try go_wp2_with (first|((with_reducible refine aW (N:=7) rfl ?_);refine bS (N:=7) #[.int .i64 0,.int .i64 0] 80 ?_;intro gb120 hg w36 hbox hb;replace HO107:=aD (Kd.R_below (Kd.R_elderB (by (with_reducible repeat (first|apply fK|apply gF|apply eQ));exact (Kd.R_mono (Kd.R_far (p:=⟨gb118,1,none⟩) (Kd.R_far (p:=⟨gb118,0,none⟩) (Kd.R_mono HO107.out (fun k_ hk=>(⟨hk,hk.2⟩:_∧k_≠gb118))) (fun _ hk=>hk.2) (.int .i64 (wrap64 ((wrap64 (((aA t105 0).f0)+1))+t112)))) (fun _ hk=>hk.2) (.int .i64 (wrap64 ((wrap64 (((aA t105 0).f1)+t115))-1)))) (fun _ h_=>h_.1))) gb120 (Nat.le_of_eq hg.symm)) hb);have BK120:=aD (hbox);have GW120:=aD ((by rw [hg];exact (aM (cM HB (aJ HI104.out))):w.heap.size≤gb120));have GE120:=aD ((by rw [hg];exact (aM (cM HB (aJ HI104.out))):w.heap.size≤gb120));replace HB:=aD (aE (cM HB (aJ HI104.out)) hb);have NB111_120:=aD ((by rw [hg];exact Nat.ne_of_lt (gT (g:=gb111) (o:=.cells #[.int .i64 ((aA t105 0).f0),.int .i64 ((aA t105 0).f1)] 80 (0,0)) (eW BK111)):gb111≠gb120));have NB120_111:=aD ((by rw [hg];exact Nat.ne_of_gt (gT (g:=gb111) (o:=.cells #[.int .i64 ((aA t105 0).f0),.int .i64 ((aA t105 0).f1)] 80 (0,0)) (eW BK111)):gb120≠gb111));replace BK111:=aD (bG (g:=gb111) (o:=.cells #[.int .i64 ((aA t105 0).f0),.int .i64 ((aA t105 0).f1)] 80 (0,0)) (eW BK111) hb);have NB118_120:=aD ((by rw [hg];exact Nat.ne_of_lt (gT (g:=gb118) (o:=.cells #[.int .i64 (wrap64 ((wrap64 (((aA t105 0).f0)+1))+t112)),.int .i64 (wrap64 ((wrap64 (((aA t105 0).f1)+t115))-1))] 80 (0,0)) (eW BK118)):gb118≠gb120));have NB120_118:=aD ((by rw [hg];exact Nat.ne_of_gt (gT (g:=gb118) (o:=.cells #[.int .i64 (wrap64 ((wrap64 (((aA t105 0).f0)+1))+t112)),.int .i64 (wrap64 ((wrap64 (((aA t105 0).f1)+t115))-1))] 80 (0,0)) (eW BK118)):gb120≠gb118));replace BK118:=aD (bG (g:=gb118) (o:=.cells #[.int .i64 (wrap64 ((wrap64 (((aA t105 0).f0)+1))+t112)),.int .i64 (wrap64 ((wrap64 (((aA t105 0).f1)+t115))-1))] 80 (0,0)) (eW BK118) hb);have NB104_120:=aD ((by rw [hg];exact Nat.ne_of_lt (bF (show aX w _ g104 t101 t116 t117 from aR HI104)):g104≠gb120));have NB120_104:=aD ((by rw [hg];exact Nat.ne_of_gt (bF (show aX w _ g104 t101 t116 t117 from aR HI104)):gb120≠g104));replace HI104:=aD (aX.below (show aX w ((w33.setCell ⟨gb118,0,none⟩ (.int .i64 (wrap64 ((wrap64 (((aA t105 0).f0)+1))+t112)))).setCell ⟨gb118,1,none⟩ (.int .i64 (wrap64 ((wrap64 (((aA t105 0).f1)+t115))-1)))) g104 t101 t116 t117 from aR HI104) hb);clear hb hbox hg;have hnb37:=NB120_111.out;have hnc37:=NB111_120.out;have hnb38:=NB120_118.out;have hnc38:=NB118_120.out;have hnb39:=NB120_104.out;have hnc39:=NB104_120.out;have hcz40_0:=aT BK120 0;have hcz40_1:=aT BK120 1;have hfz40_0:=aC BK120.out 0;have hfz40_1:=aC BK120.out 1))
 replace HO107:Aside0 (Kd.R gA 80 ((w36.setCell ⟨gb120,0,none⟩ (.int .i64 ((aA t105 2).f0))).setCell ⟨gb120,1,none⟩ (.int .i64 ((aA t105 2).f1))) w.heap.size (fun k_=>k_≠gb111∧k_≠gb118∧k_≠gb120) (.slice (some ad110) t105.length co24) t105):=⟨by (with_reducible repeat (first|apply fK|apply gF|apply eQ));exact Kd.R_mono (Kd.R_far (p:=⟨gb120,1,none⟩) (Kd.R_far (p:=⟨gb120,0,none⟩) (Kd.R_mono HO107.out (fun k_ hk=>(⟨hk,hk.2⟩:_∧k_≠gb120))) (fun _ hk=>hk.2) (.int .i64 ((aA t105 2).f0))) (fun _ hk=>hk.2) (.int .i64 ((aA t105 2).f1))) (fun _ hk=>⟨hk.1.1.1,⟨hk.1.1.2,hk.1.2⟩⟩)⟩
 replace BK111:Aside0 (((w36.setCell ⟨gb120,0,none⟩ (.int .i64 ((aA t105 2).f0))).setCell ⟨gb120,1,none⟩ (.int .i64 ((aA t105 2).f1))).heap[gb111]? = some (.cells #[.int .i64 ((aA t105 0).f0),.int .i64 ((aA t105 0).f1)] 80 (0,0))):=⟨eW BK111⟩
 replace BK118:Aside0 (((w36.setCell ⟨gb120,0,none⟩ (.int .i64 ((aA t105 2).f0))).setCell ⟨gb120,1,none⟩ (.int .i64 ((aA t105 2).f1))).heap[gb118]? = some (.cells #[.int .i64 (wrap64 ((wrap64 (((aA t105 0).f0)+1))+t112)),.int .i64 (wrap64 ((wrap64 (((aA t105 0).f1)+t115))-1))] 80 (0,0))):=⟨eW BK118⟩
 replace BK120:Aside0 (((w36.setCell ⟨gb120,0,none⟩ (.int .i64 ((aA t105 2).f0))).setCell ⟨gb120,1,none⟩ (.int .i64 ((aA t105 2).f1))).heap[gb120]? = some (.cells #[.int .i64 ((aA t105 2).f0),.int .i64 ((aA t105 2).f1)] 80 (0,0))):=⟨eW BK120⟩
 replace HB:Aside0 (Below w.heap.size w ((w36.setCell ⟨gb120,0,none⟩ (.int .i64 ((aA t105 2).f0))).setCell ⟨gb120,1,none⟩ (.int .i64 ((aA t105 2).f1)))):=⟨cM HB (aJ HI104.out)⟩
 replace HI104:Aside0 (aX w ((w36.setCell ⟨gb120,0,none⟩ (.int .i64 ((aA t105 2).f0))).setCell ⟨gb120,1,none⟩ (.int .i64 ((aA t105 2).f1))) g104 t101 t116 t117):=⟨aR HI104⟩
 generalize ((w36.setCell ⟨gb120,0,none⟩ (.int .i64 ((aA t105 2).f0))).setCell ⟨gb120,1,none⟩ (.int .i64 ((aA t105 2).f1)))=w41 at HO107 BK111 BK118 BK120 HI104 HB ⊢
 replace HO107:=aD (eQ HO107.out)
 replace BK111:=aD (aK BK111.out)
 replace BK118:=aD (aK BK118.out)
 replace BK120:=aD (aK BK120.out)
 replace HI104:=aD (aX.drew HI104.out)
 replace HB:=aD (lC HB.out)
 refine eE (n:=15) (S:=fun w'=>w'.cell? ⟨gb120,0,none⟩=some (.int .i64 ((aA t105 2).f0))∧w'.cell? ⟨gb120,1,none⟩=some (.int .i64 ((aA t105 2).f1))) (ds:=[]) (bm 15 0) (by kernel_rfl) rfl rfl ⟨aT BK120 0,aT BK120 1⟩ (fun hHeld=>?_);refine cX nQ mO (fun HT_ HW_=>?_)
 generalize w41.drew=w42 at HO107 BK111 BK118 BK120 HI104 HB hHeld ⊢
 refine dG ((0,0,33,1)::(0,2,35,5)::(0,6,39,69)::(0,9,42,581)::(2,1,34,583)::(2,7,40,711)::(0,8,41,967)::[]) ?_
 iterate 7 (first|refine jT HT_ ?_|refine qB HT_ HW_ hHeld ?_)
 refine bL ?_
 refine sO (σ:=Nat) 1 (bm 15 16383) (fun s_=>[(36,.int .i64 t121),(43,.int .i64 t124),(8,.pointer (some ⟨s_,0,none⟩)),(37,.int .i64 (wrap64 (((aA t105 2).f0)+t121))),(38,.int .i64 (wrap64 ((wrap64 (((aA t105 2).f0)+t121))-1))),(44,.int .i64 (wrap64 ((wrap64 (((aA t105 2).f1)+1))+t124))),(45,.agg #[.int .i64 (wrap64 ((wrap64 (((aA t105 2).f0)+t121))-1)),.int .i64 (wrap64 ((wrap64 (((aA t105 2).f1)+1))+t124))])]) (fun s_ w'=>(w'.cell? ⟨gb120,0,none⟩=some (.int .i64 ((aA t105 2).f0))∧w'.cell? ⟨gb120,1,none⟩=some (.int .i64 ((aA t105 2).f1)))∧(Kd.R gA 80 w' w.heap.size (fun k_=>k_≠gb111∧k_≠gb118∧k_≠gb120∧k_≠s_) (.slice (some ad110) t105.length co24) t105)∧(w'.heap[gb111]? = some (.cells #[.int .i64 ((aA t105 0).f0),.int .i64 ((aA t105 0).f1)] 80 (0,0)))∧(w'.heap[gb118]? = some (.cells #[.int .i64 (wrap64 ((wrap64 (((aA t105 0).f0)+1))+t112)),.int .i64 (wrap64 ((wrap64 (((aA t105 0).f1)+t115))-1))] 80 (0,0)))∧(w'.heap[gb120]? = some (.cells #[.int .i64 ((aA t105 2).f0),.int .i64 ((aA t105 2).f1)] 80 (0,0)))∧(w'.heap[s_]? = some (.cells #[.int .i64 0,.int .i64 0] 80 (0,0)))∧(w.heap.size≤s_)∧(w.heap.size≤s_)∧(g104≠s_)∧(s_≠g104)∧(gb111≠s_)∧(s_≠gb111)∧(gb118≠s_)∧(s_≠gb118)∧(gb120≠s_)∧(s_≠gb120)∧(aX w w' g104 t101 t125 t126)∧(Below w.heap.size w w')) ?_ ?_
 rotate_left
 ·intro hCont
  refine mF (i:=3) (j:=13) (Ni:=some 36) (Nj:=some 8) (bm 15 975) (bm 15 9159) rfl rfl rfl rfl (gV HT_.out (by kernel_rfl)) (by decide) (by decide) (fun K hK=>?_) (fun K hK=>?_)
  ·skip
   refine bP Try.func109 #[.pointer (some ⟨g104,0,none⟩),.int .i64 3] ?_
   with_reducible refine (bE g104 t101 t116 t117 3 t121 t122 t123 w _ ?side1 ?side2 A8.out).mono ?_
   (case side1=>exact aR HI104)
   (case side2=>exact cM HB (aJ HI104.out))
   rintro e w43 ⟨rfl,hi,hb,hk⟩
   refine ⟨_,rfl,?_⟩
   replace HO107:=aD (Kd.R_mono (Kd.R_keep (aX.apart (show aX w _ g104 t101 t116 t117 from aR HI104) (bN HO107) (by decide)) hk (fun _ h=>h.2)) (fun _ h=>h.1))
   replace BK111:=aD (dO.blk hk (g':=gb111) (o:=.cells #[.int .i64 ((aA t105 0).f0),.int .i64 ((aA t105 0).f1)] 80 (0,0)) (cF BK111) NB111_104.out (by simp))
   replace BK118:=aD (dO.blk hk (g':=gb118) (o:=.cells #[.int .i64 (wrap64 ((wrap64 (((aA t105 0).f0)+1))+t112)),.int .i64 (wrap64 ((wrap64 (((aA t105 0).f1)+t115))-1))] 80 (0,0)) (cF BK118) NB118_104.out (by simp))
   replace BK120:=aD (dO.blk hk (g':=gb120) (o:=.cells #[.int .i64 ((aA t105 2).f0),.int .i64 ((aA t105 2).f1)] 80 (0,0)) (cF BK120) NB120_104.out (by simp))
   replace HB:=aD (hb)
   replace HI104:=aD (hi)
   (try clear hb)
   (try clear hb2)
   (try clear hk)
   (try clear hi)
   refine hK.out _ _ ⟨aT BK120 0,aT BK120 1⟩ (fun hHeld=>?_)
   clear hK K
   refine cW (some 36) ?_
   refine dG ((0,4,37,991)::(0,5,38,1023)::[]) ?_
   iterate 2 (first|refine jT HT_ ?_)
   refine bL ?_
   refine mF (i:=10) (j:=13) (Ni:=some 43) (Nj:=some 8) (bm 15 2047) (bm 15 9215) rfl rfl rfl rfl (gV HT_.out (by kernel_rfl)) (by decide) (by decide) (fun K hK=>?_) (fun K hK=>?_)
   ·skip
    refine bP Try.func109 #[.pointer (some ⟨g104,0,none⟩),.int .i64 2] ?_
    with_reducible refine (bE g104 t101 t122 t123 2 t124 t125 t126 w _ ?side1 ?side2 A9.out).mono ?_
    (case side1=>exact aR HI104)
    (case side2=>exact cM HB (aJ HI104.out))
    rintro e w44 ⟨rfl,hi,hb,hk⟩
    refine ⟨_,rfl,?_⟩
    replace HO107:=aD (Kd.R_mono (Kd.R_keep (aX.apart (show aX w _ g104 t101 t122 t123 from aR HI104) (bN HO107) (by decide)) hk (fun _ h=>h.2)) (fun _ h=>h.1))
    replace BK111:=aD (dO.blk hk (g':=gb111) (o:=.cells #[.int .i64 ((aA t105 0).f0),.int .i64 ((aA t105 0).f1)] 80 (0,0)) (cF BK111) NB111_104.out (by simp))
    replace BK118:=aD (dO.blk hk (g':=gb118) (o:=.cells #[.int .i64 (wrap64 ((wrap64 (((aA t105 0).f0)+1))+t112)),.int .i64 (wrap64 ((wrap64 (((aA t105 0).f1)+t115))-1))] 80 (0,0)) (cF BK118) NB118_104.out (by simp))
    replace BK120:=aD (dO.blk hk (g':=gb120) (o:=.cells #[.int .i64 ((aA t105 2).f0),.int .i64 ((aA t105 2).f1)] 80 (0,0)) (cF BK120) NB120_104.out (by simp))
    replace HB:=aD (hb)
    replace HI104:=aD (hi)
    (try clear hb)
    (try clear hb2)
    (try clear hk)
    (try clear hi)
    refine hK.out _ _ ⟨aT BK120 0,aT BK120 1⟩ (fun hHeld=>?_)
    clear hK K
    refine cW (some 43) ?_
    refine dG ((0,11,44,4095)::(0,12,45,8191)::[]) ?_
    iterate 2 (first|refine jT HT_ ?_)
    refine bL ?_
    refine cS (i:=13) (N:=some 8) (bm 15 16383) rfl rfl (bI HT_.out (by kernel_rfl)) (by decide) (fun K hK=>?_)
    refine dQ ?hg (N:=8) ?hd (cs:=#[.int .i64 0,.int .i64 0]) (t:=80) ?hr ?_;(case hd=>rfl);(case hg=>rfl);(case hr=>first|(go_simp;done)|(go_simp;rfl))
    intro gb127 hg w45 hbox hb
    replace HO107:=aD (Kd.R_below (Kd.R_elderB (bN HO107) gb127 (Nat.le_of_eq hg.symm)) hb)
    have BK127:=aD (hbox)
    have GW127:=aD ((by rw [hg];exact (aM (cM HB (aJ HI104.out))):w.heap.size≤gb127))
    have GE127:=aD ((by rw [hg];exact (aM (cM HB (aJ HI104.out))):w.heap.size≤gb127))
    replace HB:=aD (aE (cM HB (aJ HI104.out)) hb)
    have NB111_127:=aD ((bW BK111 hg))
    have NB127_111:=aD ((bX BK111 hg))
    replace BK111:=aD (aU BK111 hb)
    have NB118_127:=aD ((bW BK118 hg))
    have NB127_118:=aD ((bX BK118 hg))
    replace BK118:=aD (aU BK118 hb)
    have NB120_127:=aD ((bW BK120 hg))
    have NB127_120:=aD ((bX BK120 hg))
    replace BK120:=aD (aU BK120 hb)
    have NB104_127:=aD ((by rw [hg];exact Nat.ne_of_lt (bF (show aX w _ g104 t101 t125 t126 from aR HI104)):g104≠gb127))
    have NB127_104:=aD ((by rw [hg];exact Nat.ne_of_gt (bF (show aX w _ g104 t101 t125 t126 from aR HI104)):gb127≠g104))
    replace HI104:=aD (aX.below (aR HI104) hb)
    clear hb hbox hg
    refine hK.out _ _ ⟨aT BK120 0,aT BK120 1⟩ (fun hHeld=>?_)
    clear hK K
    refine cW (some 8) ?_
    exact fP (by simp only [eC,Act.put,List.setIfInBounds_toArray,List.set_cons_zero,List.set_cons_succ]) (hCont (gb127) _ ⟨hHeld,(by (with_reducible repeat (first|apply fK|apply gF|apply eQ));exact Kd.R_mono HO107.out (fun _ hk=>⟨hk.1.1,⟨hk.1.2.1,⟨hk.1.2.2,hk.2⟩⟩⟩)),(cF BK111),(cF BK118),(cF BK120),(cF BK127),GW127.out,GE127.out,NB104_127.out,NB127_104.out,NB111_127.out,NB127_111.out,NB118_127.out,NB127_118.out,NB120_127.out,NB127_120.out,(aR HI104),(cM HB (aJ HI104.out))⟩)
   ·skip
    refine dQ ?hg (N:=8) ?hd (cs:=#[.int .i64 0,.int .i64 0]) (t:=80) ?hr ?_;(case hd=>rfl);(case hg=>rfl);(case hr=>first|(go_simp;done)|(go_simp;rfl))
    intro gb127 hg w44 hbox hb
    replace HO107:=aD (Kd.R_below (Kd.R_elderB (bN HO107) gb127 (Nat.le_of_eq hg.symm)) hb)
    have BK127:=aD (hbox)
    have GW127:=aD ((by rw [hg];exact (aM (cM HB (aJ HI104.out))):w.heap.size≤gb127))
    have GE127:=aD ((by rw [hg];exact (aM (cM HB (aJ HI104.out))):w.heap.size≤gb127))
    replace HB:=aD (aE (cM HB (aJ HI104.out)) hb)
    have NB111_127:=aD ((bW BK111 hg))
    have NB127_111:=aD ((bX BK111 hg))
    replace BK111:=aD (aU BK111 hb)
    have NB118_127:=aD ((bW BK118 hg))
    have NB127_118:=aD ((bX BK118 hg))
    replace BK118:=aD (aU BK118 hb)
    have NB120_127:=aD ((bW BK120 hg))
    have NB127_120:=aD ((bX BK120 hg))
    replace BK120:=aD (aU BK120 hb)
    have NB104_127:=aD ((by rw [hg];exact Nat.ne_of_lt (bF (show aX w _ g104 t101 t122 t123 from aR HI104)):g104≠gb127))
    have NB127_104:=aD ((by rw [hg];exact Nat.ne_of_gt (bF (show aX w _ g104 t101 t122 t123 from aR HI104)):gb127≠g104))
    replace HI104:=aD (aX.below (aR HI104) hb)
    clear hb hbox hg
    refine hK.out _ _ ⟨aT BK120 0,aT BK120 1⟩ (fun hHeld=>?_)
    clear hK K
    refine cW (some 8) ?_
    refine cS (i:=10) (N:=some 43) (bm 15 10239) rfl rfl (bI HT_.out (by kernel_rfl)) (by decide) (fun K hK=>?_)
    refine bP Try.func109 #[.pointer (some ⟨g104,0,none⟩),.int .i64 2] ?_
    with_reducible refine (bE g104 t101 t122 t123 2 t124 t125 t126 w _ ?side1 ?side2 A9.out).mono ?_
    (case side1=>exact aR HI104)
    (case side2=>exact cM HB (aJ HI104.out))
    rintro e w45 ⟨rfl,hi,hb,hk⟩
    refine ⟨_,rfl,?_⟩
    replace HO107:=aD (Kd.R_mono (Kd.R_keep (aX.apart (show aX w _ g104 t101 t122 t123 from aR HI104) (bN HO107) (by decide)) hk (fun _ h=>h.2)) (fun _ h=>h.1))
    replace BK111:=aD (dO.blk hk (g':=gb111) (o:=.cells #[.int .i64 ((aA t105 0).f0),.int .i64 ((aA t105 0).f1)] 80 (0,0)) (cF BK111) NB111_104.out (by simp))
    replace BK118:=aD (dO.blk hk (g':=gb118) (o:=.cells #[.int .i64 (wrap64 ((wrap64 (((aA t105 0).f0)+1))+t112)),.int .i64 (wrap64 ((wrap64 (((aA t105 0).f1)+t115))-1))] 80 (0,0)) (cF BK118) NB118_104.out (by simp))
    replace BK120:=aD (dO.blk hk (g':=gb120) (o:=.cells #[.int .i64 ((aA t105 2).f0),.int .i64 ((aA t105 2).f1)] 80 (0,0)) (cF BK120) NB120_104.out (by simp))
    replace BK127:=aD (dO.blk hk (g':=gb127) (o:=.cells #[.int .i64 0,.int .i64 0] 80 (0,0)) (cF BK127) NB127_104.out (by simp))
    replace HB:=aD (hb)
    replace HI104:=aD (hi)
    (try clear hb)
    (try clear hb2)
    (try clear hk)
    (try clear hi)
    refine hK.out _ _ ⟨aT BK120 0,aT BK120 1⟩ (fun hHeld=>?_)
    clear hK K
    refine cW (some 43) ?_
    refine dG ((0,11,44,12287)::(0,12,45,16383)::[]) ?_
    iterate 2 (first|refine jT HT_ ?_)
    refine bL ?_
    exact fP (by simp only [eC,Act.put,List.setIfInBounds_toArray,List.set_cons_zero,List.set_cons_succ]) (hCont (gb127) _ ⟨hHeld,(by (with_reducible repeat (first|apply fK|apply gF|apply eQ));exact Kd.R_mono HO107.out (fun _ hk=>⟨hk.1.1,⟨hk.1.2.1,⟨hk.1.2.2,hk.2⟩⟩⟩)),(cF BK111),(cF BK118),(cF BK120),(cF BK127),GW127.out,GE127.out,NB104_127.out,NB127_104.out,NB111_127.out,NB127_111.out,NB118_127.out,NB127_118.out,NB120_127.out,NB127_120.out,(aR HI104),(cM HB (aJ HI104.out))⟩)
  ·skip
   refine dQ ?hg (N:=8) ?hd (cs:=#[.int .i64 0,.int .i64 0]) (t:=80) ?hr ?_;(case hd=>rfl);(case hg=>rfl);(case hr=>first|(go_simp;done)|(go_simp;rfl))
   intro gb127 hg w43 hbox hb
   replace HO107:=aD (Kd.R_below (Kd.R_elderB (bN HO107) gb127 (Nat.le_of_eq hg.symm)) hb)
   have BK127:=aD (hbox)
   have GW127:=aD ((by rw [hg];exact (aM (cM HB (aJ HI104.out))):w.heap.size≤gb127))
   have GE127:=aD ((by rw [hg];exact (aM (cM HB (aJ HI104.out))):w.heap.size≤gb127))
   replace HB:=aD (aE (cM HB (aJ HI104.out)) hb)
   have NB111_127:=aD ((bW BK111 hg))
   have NB127_111:=aD ((bX BK111 hg))
   replace BK111:=aD (aU BK111 hb)
   have NB118_127:=aD ((bW BK118 hg))
   have NB127_118:=aD ((bX BK118 hg))
   replace BK118:=aD (aU BK118 hb)
   have NB120_127:=aD ((bW BK120 hg))
   have NB127_120:=aD ((bX BK120 hg))
   replace BK120:=aD (aU BK120 hb)
   have NB104_127:=aD ((by rw [hg];exact Nat.ne_of_lt (bF (show aX w _ g104 t101 t116 t117 from aR HI104)):g104≠gb127))
   have NB127_104:=aD ((by rw [hg];exact Nat.ne_of_gt (bF (show aX w _ g104 t101 t116 t117 from aR HI104)):gb127≠g104))
   replace HI104:=aD (aX.below (aR HI104) hb)
   clear hb hbox hg
   refine hK.out _ _ ⟨aT BK120 0,aT BK120 1⟩ (fun hHeld=>?_)
   clear hK K
   refine cW (some 8) ?_
   refine cS (i:=3) (N:=some 36) (bm 15 9167) rfl rfl (bI HT_.out (by kernel_rfl)) (by decide) (fun K hK=>?_)
   refine bP Try.func109 #[.pointer (some ⟨g104,0,none⟩),.int .i64 3] ?_
   with_reducible refine (bE g104 t101 t116 t117 3 t121 t122 t123 w _ ?side1 ?side2 A8.out).mono ?_
   (case side1=>exact aR HI104)
   (case side2=>exact cM HB (aJ HI104.out))
   rintro e w44 ⟨rfl,hi,hb,hk⟩
   refine ⟨_,rfl,?_⟩
   replace HO107:=aD (Kd.R_mono (Kd.R_keep (aX.apart (show aX w _ g104 t101 t116 t117 from aR HI104) (bN HO107) (by decide)) hk (fun _ h=>h.2)) (fun _ h=>h.1))
   replace BK111:=aD (dO.blk hk (g':=gb111) (o:=.cells #[.int .i64 ((aA t105 0).f0),.int .i64 ((aA t105 0).f1)] 80 (0,0)) (cF BK111) NB111_104.out (by simp))
   replace BK118:=aD (dO.blk hk (g':=gb118) (o:=.cells #[.int .i64 (wrap64 ((wrap64 (((aA t105 0).f0)+1))+t112)),.int .i64 (wrap64 ((wrap64 (((aA t105 0).f1)+t115))-1))] 80 (0,0)) (cF BK118) NB118_104.out (by simp))
   replace BK120:=aD (dO.blk hk (g':=gb120) (o:=.cells #[.int .i64 ((aA t105 2).f0),.int .i64 ((aA t105 2).f1)] 80 (0,0)) (cF BK120) NB120_104.out (by simp))
   replace BK127:=aD (dO.blk hk (g':=gb127) (o:=.cells #[.int .i64 0,.int .i64 0] 80 (0,0)) (cF BK127) NB127_104.out (by simp))
   replace HB:=aD (hb)
   replace HI104:=aD (hi)
   (try clear hb)
   (try clear hb2)
   (try clear hk)
   (try clear hi)
   refine hK.out _ _ ⟨aT BK120 0,aT BK120 1⟩ (fun hHeld=>?_)
   clear hK K
   refine cW (some 36) ?_
   refine dG ((0,4,37,9183)::(0,5,38,9215)::[]) ?_
   iterate 2 (first|refine jT HT_ ?_)
   refine bL ?_
   refine cS (i:=10) (N:=some 43) (bm 15 10239) rfl rfl (bI HT_.out (by kernel_rfl)) (by decide) (fun K hK=>?_)
   refine bP Try.func109 #[.pointer (some ⟨g104,0,none⟩),.int .i64 2] ?_
   with_reducible refine (bE g104 t101 t122 t123 2 t124 t125 t126 w _ ?side1 ?side2 A9.out).mono ?_
   (case side1=>exact aR HI104)
   (case side2=>exact cM HB (aJ HI104.out))
   rintro e w45 ⟨rfl,hi,hb,hk⟩
   refine ⟨_,rfl,?_⟩
   replace HO107:=aD (Kd.R_mono (Kd.R_keep (aX.apart (show aX w _ g104 t101 t122 t123 from aR HI104) (bN HO107) (by decide)) hk (fun _ h=>h.2)) (fun _ h=>h.1))
   replace BK111:=aD (dO.blk hk (g':=gb111) (o:=.cells #[.int .i64 ((aA t105 0).f0),.int .i64 ((aA t105 0).f1)] 80 (0,0)) (cF BK111) NB111_104.out (by simp))
   replace BK118:=aD (dO.blk hk (g':=gb118) (o:=.cells #[.int .i64 (wrap64 ((wrap64 (((aA t105 0).f0)+1))+t112)),.int .i64 (wrap64 ((wrap64 (((aA t105 0).f1)+t115))-1))] 80 (0,0)) (cF BK118) NB118_104.out (by simp))
   replace BK120:=aD (dO.blk hk (g':=gb120) (o:=.cells #[.int .i64 ((aA t105 2).f0),.int .i64 ((aA t105 2).f1)] 80 (0,0)) (cF BK120) NB120_104.out (by simp))
   replace BK127:=aD (dO.blk hk (g':=gb127) (o:=.cells #[.int .i64 0,.int .i64 0] 80 (0,0)) (cF BK127) NB127_104.out (by simp))
   replace HB:=aD (hb)
   replace HI104:=aD (hi)
   (try clear hb)
   (try clear hb2)
   (try clear hk)
   (try clear hi)
   refine hK.out _ _ ⟨aT BK120 0,aT BK120 1⟩ (fun hHeld=>?_)
   clear hK K
   refine cW (some 43) ?_
   refine dG ((0,11,44,12287)::(0,12,45,16383)::[]) ?_
   iterate 2 (first|refine jT HT_ ?_)
   refine bL ?_
   exact fP (by simp only [eC,Act.put,List.setIfInBounds_toArray,List.set_cons_zero,List.set_cons_succ]) (hCont (gb127) _ ⟨hHeld,(by (with_reducible repeat (first|apply fK|apply gF|apply eQ));exact Kd.R_mono HO107.out (fun _ hk=>⟨hk.1.1,⟨hk.1.2.1,⟨hk.1.2.2,hk.2⟩⟩⟩)),(cF BK111),(cF BK118),(cF BK120),(cF BK127),GW127.out,GE127.out,NB104_127.out,NB127_104.out,NB111_127.out,NB127_111.out,NB118_127.out,NB127_118.out,NB120_127.out,NB127_120.out,(aR HI104),(cM HB (aJ HI104.out))⟩)
 rintro gb127 w46 ⟨hS_,h0_,h1_,h2_,h3_,h4_,h5_,h6_,h7_,h8_,h9_,h10_,h11_,h12_,h13_,h14_,h15_,h16_⟩
 have n0_:Aside0 (Kd.R gA 80 w46 w.heap.size (fun k_=>k_≠gb111∧k_≠gb118∧k_≠gb120∧k_≠gb127) (.slice (some ad110) t105.length co24) t105):=⟨h0_⟩
 have n1_:Aside0 (w46.heap[gb111]? = some (.cells #[.int .i64 ((aA t105 0).f0),.int .i64 ((aA t105 0).f1)] 80 (0,0))):=⟨h1_⟩
 have n2_:Aside0 (w46.heap[gb118]? = some (.cells #[.int .i64 (wrap64 ((wrap64 (((aA t105 0).f0)+1))+t112)),.int .i64 (wrap64 ((wrap64 (((aA t105 0).f1)+t115))-1))] 80 (0,0))):=⟨h2_⟩
 have n3_:Aside0 (w46.heap[gb120]? = some (.cells #[.int .i64 ((aA t105 2).f0),.int .i64 ((aA t105 2).f1)] 80 (0,0))):=⟨h3_⟩
 have n4_:Aside0 (w46.heap[gb127]? = some (.cells #[.int .i64 0,.int .i64 0] 80 (0,0))):=⟨h4_⟩
 have n5_:Aside0 (w.heap.size≤gb127):=⟨h5_⟩
 have n6_:Aside0 (w.heap.size≤gb127):=⟨h6_⟩
 have n7_:Aside0 (g104≠gb127):=⟨h7_⟩
 have n8_:Aside0 (gb127≠g104):=⟨h8_⟩
 have n9_:Aside0 (gb111≠gb127):=⟨h9_⟩
 have n10_:Aside0 (gb127≠gb111):=⟨h10_⟩
 have n11_:Aside0 (gb118≠gb127):=⟨h11_⟩
 have n12_:Aside0 (gb127≠gb118):=⟨h12_⟩
 have n13_:Aside0 (gb120≠gb127):=⟨h13_⟩
 have n14_:Aside0 (gb127≠gb120):=⟨h14_⟩
 have n15_:Aside0 (aX w w46 g104 t101 t125 t126):=⟨h15_⟩
 have n16_:Aside0 (Below w.heap.size w w46):=⟨h16_⟩
 clear HO107
 clear BK111
 clear BK118
 clear BK120
 clear HI104
 clear HB
 clear h0_ h1_ h2_ h3_ h4_ h5_ h6_ h7_ h8_ h9_ h10_ h11_ h12_ h13_ h14_ h15_ h16_
 have HO107:=n0_
 have BK111:=n1_
 have BK118:=n2_
 have BK120:=n3_
 have BK127:=n4_
 have GW127:=n5_
 have GE127:=n6_
 have NB104_127:=n7_
 have NB127_104:=n8_
 have NB111_127:=n9_
 have NB127_111:=n10_
 have NB118_127:=n11_
 have NB127_118:=n12_
 have NB120_127:=n13_
 have NB127_120:=n14_
 have HI104:=n15_
 have HB:=n16_
 clear n0_ n1_ n2_ n3_ n4_ n5_ n6_ n7_ n8_ n9_ n10_ n11_ n12_ n13_ n14_ n15_ n16_
 have hHeld:w46.cell? ⟨gb120,0,none⟩=some (.int .i64 ((aA t105 2).f0))∧w46.cell? ⟨gb120,1,none⟩=some (.int .i64 ((aA t105 2).f1)):=hS_
 refine fP (a':=?_) ?_ ?_
 rotate_left
 ·simp only [eC,Act.put,List.setIfInBounds_toArray,List.set_cons_zero,List.set_cons_succ]
  rfl
 refine cS (i:=14) (N:=none) (bm 15 32767) rfl rfl (bI HT_.out (by kernel_rfl)) (by decide) (fun K hK=>?_)
 have hs47:w46.cell? ⟨gb127,0,none⟩=some (.int .i64 0):=aT BK127 0
 have hfs47:=aC BK127.out 0
 have hns47_0:=NB111_127.out
 have hns47_1:=NB118_127.out
 have hns47_2:=NB120_127.out
 have hms47_0:=NB127_111.out
 have hms47_1:=NB127_118.out
 have hms47_2:=NB127_120.out
 have hs48:w46.cell? ⟨gb127,1,none⟩=some (.int .i64 0):=aT BK127 1
 have hfs48:=aC BK127.out 1
 have hns48_0:=NB111_127.out
 have hns48_1:=NB118_127.out
 have hns48_2:=NB120_127.out
 have hms48_0:=NB127_111.out
 have hms48_1:=NB127_118.out
 have hms48_2:=NB127_120.out
 refine fW (w1:=?_) (by rfl) rfl ?_ ?_
 rotate_left
 ·go_simp
  rfl
 refine hK.out _ _ ⟨(cU NB120_127 ((cU NB120_127 hHeld.1))),(cU NB120_127 ((cU NB120_127 hHeld.2)))⟩ (fun hHeld=>?_)
 clear hK K
 refine dD (dZ HT_.out (by kernel_rfl)) ?_
 try go_wp2
 replace HO107:Aside0 (Kd.R gA 80 ((w46.setCell ⟨gb127,0,none⟩ (.int .i64 (wrap64 ((wrap64 (((aA t105 2).f0)+t121))-1)))).setCell ⟨gb127,1,none⟩ (.int .i64 (wrap64 ((wrap64 (((aA t105 2).f1)+1))+t124)))) w.heap.size (fun k_=>k_≠gb111∧k_≠gb118∧k_≠gb120∧k_≠gb127) (.slice (some ad110) t105.length co24) t105):=⟨by (with_reducible repeat (first|apply fK|apply gF|apply eQ));exact Kd.R_mono (Kd.R_far (p:=⟨gb127,1,none⟩) (Kd.R_far (p:=⟨gb127,0,none⟩) (Kd.R_mono HO107.out (fun k_ hk=>(⟨hk,hk.2.2.2⟩:_∧k_≠gb127))) (fun _ hk=>hk.2) (.int .i64 (wrap64 ((wrap64 (((aA t105 2).f0)+t121))-1)))) (fun _ hk=>hk.2) (.int .i64 (wrap64 ((wrap64 (((aA t105 2).f1)+1))+t124)))) (fun _ hk=>⟨hk.1.1,⟨hk.1.2.1,⟨hk.1.2.2.1,hk.1.2.2.2⟩⟩⟩)⟩
 replace BK111:Aside0 (((w46.setCell ⟨gb127,0,none⟩ (.int .i64 (wrap64 ((wrap64 (((aA t105 2).f0)+t121))-1)))).setCell ⟨gb127,1,none⟩ (.int .i64 (wrap64 ((wrap64 (((aA t105 2).f1)+1))+t124)))).heap[gb111]? = some (.cells #[.int .i64 ((aA t105 0).f0),.int .i64 ((aA t105 0).f1)] 80 (0,0))):=⟨eW BK111⟩
 replace BK118:Aside0 (((w46.setCell ⟨gb127,0,none⟩ (.int .i64 (wrap64 ((wrap64 (((aA t105 2).f0)+t121))-1)))).setCell ⟨gb127,1,none⟩ (.int .i64 (wrap64 ((wrap64 (((aA t105 2).f1)+1))+t124)))).heap[gb118]? = some (.cells #[.int .i64 (wrap64 ((wrap64 (((aA t105 0).f0)+1))+t112)),.int .i64 (wrap64 ((wrap64 (((aA t105 0).f1)+t115))-1))] 80 (0,0))):=⟨eW BK118⟩
 replace BK120:Aside0 (((w46.setCell ⟨gb127,0,none⟩ (.int .i64 (wrap64 ((wrap64 (((aA t105 2).f0)+t121))-1)))).setCell ⟨gb127,1,none⟩ (.int .i64 (wrap64 ((wrap64 (((aA t105 2).f1)+1))+t124)))).heap[gb120]? = some (.cells #[.int .i64 ((aA t105 2).f0),.int .i64 ((aA t105 2).f1)] 80 (0,0))):=⟨eW BK120⟩
 replace BK127:Aside0 (((w46.setCell ⟨gb127,0,none⟩ (.int .i64 (wrap64 ((wrap64 (((aA t105 2).f0)+t121))-1)))).setCell ⟨gb127,1,none⟩ (.int .i64 (wrap64 ((wrap64 (((aA t105 2).f1)+1))+t124)))).heap[gb127]? = some (.cells #[.int .i64 (wrap64 ((wrap64 (((aA t105 2).f0)+t121))-1)),.int .i64 (wrap64 ((wrap64 (((aA t105 2).f1)+1))+t124))] 80 (0,0))):=⟨eW BK127⟩
 replace HB:Aside0 (Below w.heap.size w ((w46.setCell ⟨gb127,0,none⟩ (.int .i64 (wrap64 ((wrap64 (((aA t105 2).f0)+t121))-1)))).setCell ⟨gb127,1,none⟩ (.int .i64 (wrap64 ((wrap64 (((aA t105 2).f1)+1))+t124))))):=⟨cM HB (aJ HI104.out)⟩
 replace HI104:Aside0 (aX w ((w46.setCell ⟨gb127,0,none⟩ (.int .i64 (wrap64 ((wrap64 (((aA t105 2).f0)+t121))-1)))).setCell ⟨gb127,1,none⟩ (.int .i64 (wrap64 ((wrap64 (((aA t105 2).f1)+1))+t124)))) g104 t101 t125 t126):=⟨aR HI104⟩
 generalize ((w46.setCell ⟨gb127,0,none⟩ (.int .i64 (wrap64 ((wrap64 (((aA t105 2).f0)+t121))-1)))).setCell ⟨gb127,1,none⟩ (.int .i64 (wrap64 ((wrap64 (((aA t105 2).f1)+1))+t124))))=w49 at HO107 BK111 BK118 BK120 BK127 HI104 HB ⊢
 replace HO107:=aD (eQ HO107.out)
 replace BK111:=aD (aK BK111.out)
 replace BK118:=aD (aK BK118.out)
 replace BK120:=aD (aK BK120.out)
 replace BK127:=aD (aK BK127.out)
 replace HI104:=aD (aX.drew HI104.out)
 replace HB:=aD (lC HB.out)
 refine eE (n:=18) (S:=fun w'=>w'.cell? ⟨gb111,0,none⟩=some (.int .i64 ((aA t105 0).f0))∧w'.cell? ⟨gb111,1,none⟩=some (.int .i64 ((aA t105 0).f1))∧w'.cell? ⟨gb118,0,none⟩=some (.int .i64 (wrap64 ((wrap64 (((aA t105 0).f0)+1))+t112)))∧w'.cell? ⟨gb118,1,none⟩=some (.int .i64 (wrap64 ((wrap64 (((aA t105 0).f1)+t115))-1)))∧w'.cell? ⟨gb120,0,none⟩=some (.int .i64 ((aA t105 2).f0))∧w'.cell? ⟨gb120,1,none⟩=some (.int .i64 ((aA t105 2).f1))∧w'.cell? ⟨gb127,0,none⟩=some (.int .i64 (wrap64 ((wrap64 (((aA t105 2).f0)+t121))-1)))∧w'.cell? ⟨gb127,1,none⟩=some (.int .i64 (wrap64 ((wrap64 (((aA t105 2).f1)+1))+t124)))) (ds:=[]) (bm 18 0) (by kernel_rfl) rfl rfl ⟨aT BK111 0,aT BK111 1,aT BK118 0,aT BK118 1,aT BK120 0,aT BK120 1,aT BK127 0,aT BK127 1⟩ (fun hHeld=>?_);refine cX nR mP (fun HT_ HW_=>?_)
 generalize w49.drew=w50 at HO107 BK111 BK118 BK120 BK127 HI104 HB hHeld ⊢
 refine dG ((0,4,50,16)::(0,12,58,4112)::(2,0,46,4113)::(2,1,47,4115)::(2,2,48,4119)::(2,3,49,4127)::(2,8,54,4383)::(2,9,55,4895)::(2,10,56,5919)::(2,11,57,7967)::[]) ?_
 iterate 10 (first|refine jT HT_ ?_|refine qB HT_ HW_ hHeld ?_)
 refine bL ?_
 refine cS (i:=5) (N:=some 51) (bm 18 7999) rfl rfl (bI HT_.out (by kernel_rfl)) (by decide) (fun K hK=>?_)
 refine bP Try.func109 #[.pointer (some ⟨g104,0,none⟩),.int .i64 3] ?_
 with_reducible refine (bE g104 t101 t125 t126 3 t128 t129 t130 w _ ?side1 ?side2 A10.out).mono ?_
 (case side1=>exact aR HI104)
 (case side2=>exact cM HB (aJ HI104.out))
 rintro e w51 ⟨rfl,hi,hb,hk⟩
 refine ⟨_,rfl,?_⟩
 replace HO107:=aD (Kd.R_mono (Kd.R_keep (aX.apart (show aX w _ g104 t101 t125 t126 from aR HI104) (bN HO107) (by decide)) hk (fun _ h=>h.2)) (fun _ h=>h.1))
 replace BK111:=aD (dO.blk hk (g':=gb111) (o:=.cells #[.int .i64 ((aA t105 0).f0),.int .i64 ((aA t105 0).f1)] 80 (0,0)) (cF BK111) NB111_104.out (by simp))
 replace BK118:=aD (dO.blk hk (g':=gb118) (o:=.cells #[.int .i64 (wrap64 ((wrap64 (((aA t105 0).f0)+1))+t112)),.int .i64 (wrap64 ((wrap64 (((aA t105 0).f1)+t115))-1))] 80 (0,0)) (cF BK118) NB118_104.out (by simp))
 replace BK120:=aD (dO.blk hk (g':=gb120) (o:=.cells #[.int .i64 ((aA t105 2).f0),.int .i64 ((aA t105 2).f1)] 80 (0,0)) (cF BK120) NB120_104.out (by simp))
 replace BK127:=aD (dO.blk hk (g':=gb127) (o:=.cells #[.int .i64 (wrap64 ((wrap64 (((aA t105 2).f0)+t121))-1)),.int .i64 (wrap64 ((wrap64 (((aA t105 2).f1)+1))+t124))] 80 (0,0)) (cF BK127) NB127_104.out (by simp))
 replace HB:=aD (hb)
 replace HI104:=aD (hi)
 (try clear hb)
 (try clear hb2)
 (try clear hk)
 (try clear hi)
 refine hK.out _ _ ⟨aT BK111 0,aT BK111 1,aT BK118 0,aT BK118 1,aT BK120 0,aT BK120 1,aT BK127 0,aT BK127 1⟩ (fun hHeld=>?_)
 clear hK K
 refine cW (some 51) ?_
 refine dG ((0,6,52,8063)::[]) ?_
 iterate 1 (first|refine jT HT_ ?_)
 refine bL ?_
 refine cS (i:=7) (N:=some 53) (bm 18 8191) rfl rfl (bI HT_.out (by kernel_rfl)) (by decide) (fun K hK=>?_)
 refine bP Try.func138 #[.agg #[.int .i64 ((aA t105 0).f0),.int .i64 ((aA t105 0).f1)],.agg #[.int .i64 (wrap64 ((wrap64 (((aA t105 0).f0)+1))+t112)),.int .i64 (wrap64 ((wrap64 (((aA t105 0).f1)+t115))-1))],.int .i64 (wrap64 (2+t128))] ?_
 with_reducible refine (dP ((aA t105 0).f0) ((aA t105 0).f1) (wrap64 ((wrap64 (((aA t105 0).f0)+1))+t112)) (wrap64 ((wrap64 (((aA t105 0).f1)+t115))-1)) (wrap64 (2+t128)) t131 t132 _ A11.out).mono ?_
 rintro e w52 ⟨rfl,hb⟩
 refine ⟨_,rfl,?_⟩
 replace HO107:=aD (Kd.R_below (bN HO107) hb)
 replace BK111:=aD (aU BK111 hb)
 replace BK118:=aD (aU BK118 hb)
 replace BK120:=aD (aU BK120 hb)
 replace BK127:=aD (aU BK127 hb)
 replace HB:=aD (aE (cM HB (aJ HI104.out)) hb)
 replace HI104:=aD (aX.below (aR HI104) hb)
 (try clear hb)
 (try clear hb2)
 (try clear hk)
 (try clear hi)
 refine hK.out _ _ ⟨aT BK111 0,aT BK111 1,aT BK118 0,aT BK118 1,aT BK120 0,aT BK120 1,aT BK127 0,aT BK127 1⟩ (fun hHeld=>?_)
 clear hK K
 refine cW (some 53) ?_
 refine cS (i:=13) (N:=some 59) (bm 18 16383) rfl rfl (bI HT_.out (by kernel_rfl)) (by decide) (fun K hK=>?_)
 refine bP Try.func109 #[.pointer (some ⟨g104,0,none⟩),.int .i64 3] ?_
 with_reducible refine (bE g104 t101 t129 t130 3 t133 t134 t135 w _ ?side1 ?side2 A12.out).mono ?_
 (case side1=>exact aR HI104)
 (case side2=>exact cM HB (aJ HI104.out))
 rintro e w53 ⟨rfl,hi,hb,hk⟩
 refine ⟨_,rfl,?_⟩
 replace HO107:=aD (Kd.R_mono (Kd.R_keep (aX.apart (show aX w _ g104 t101 t129 t130 from aR HI104) (bN HO107) (by decide)) hk (fun _ h=>h.2)) (fun _ h=>h.1))
 replace BK111:=aD (dO.blk hk (g':=gb111) (o:=.cells #[.int .i64 ((aA t105 0).f0),.int .i64 ((aA t105 0).f1)] 80 (0,0)) (cF BK111) NB111_104.out (by simp))
 replace BK118:=aD (dO.blk hk (g':=gb118) (o:=.cells #[.int .i64 (wrap64 ((wrap64 (((aA t105 0).f0)+1))+t112)),.int .i64 (wrap64 ((wrap64 (((aA t105 0).f1)+t115))-1))] 80 (0,0)) (cF BK118) NB118_104.out (by simp))
 replace BK120:=aD (dO.blk hk (g':=gb120) (o:=.cells #[.int .i64 ((aA t105 2).f0),.int .i64 ((aA t105 2).f1)] 80 (0,0)) (cF BK120) NB120_104.out (by simp))
 replace BK127:=aD (dO.blk hk (g':=gb127) (o:=.cells #[.int .i64 (wrap64 ((wrap64 (((aA t105 2).f0)+t121))-1)),.int .i64 (wrap64 ((wrap64 (((aA t105 2).f1)+1))+t124))] 80 (0,0)) (cF BK127) NB127_104.out (by simp))
 replace HB:=aD (hb)
 replace HI104:=aD (hi)
 (try clear hb)
 (try clear hb2)
 (try clear hk)
 (try clear hi)
 refine hK.out _ _ ⟨aT BK111 0,aT BK111 1,aT BK118 0,aT BK118 1,aT BK120 0,aT BK120 1,aT BK127 0,aT BK127 1⟩ (fun hHeld=>?_)
 clear hK K
 refine cW (some 59) ?_
 refine dG ((0,14,60,32767)::[]) ?_
 iterate 1 (first|refine jT HT_ ?_)
 refine bL ?_
 refine cS (i:=15) (N:=some 61) (bm 18 65535) rfl rfl (bI HT_.out (by kernel_rfl)) (by decide) (fun K hK=>?_)
 refine bP Try.func138 #[.agg #[.int .i64 ((aA t105 2).f0),.int .i64 ((aA t105 2).f1)],.agg #[.int .i64 (wrap64 ((wrap64 (((aA t105 2).f0)+t121))-1)),.int .i64 (wrap64 ((wrap64 (((aA t105 2).f1)+1))+t124))],.int .i64 (wrap64 (2+t133))] ?_
 with_reducible refine (dP ((aA t105 2).f0) ((aA t105 2).f1) (wrap64 ((wrap64 (((aA t105 2).f0)+t121))-1)) (wrap64 ((wrap64 (((aA t105 2).f1)+1))+t124)) (wrap64 (2+t133)) t136 t137 _ A13.out).mono ?_
 rintro e w54 ⟨rfl,hb⟩
 refine ⟨_,rfl,?_⟩
 replace HO107:=aD (Kd.R_below (bN HO107) hb)
 replace BK111:=aD (aU BK111 hb)
 replace BK118:=aD (aU BK118 hb)
 replace BK120:=aD (aU BK120 hb)
 replace BK127:=aD (aU BK127 hb)
 replace HB:=aD (aE (cM HB (aJ HI104.out)) hb)
 replace HI104:=aD (aX.below (aR HI104) hb)
 (try clear hb)
 (try clear hb2)
 (try clear hk)
 (try clear hi)
 refine hK.out _ _ ⟨aT BK111 0,aT BK111 1,aT BK118 0,aT BK118 1,aT BK120 0,aT BK120 1,aT BK127 0,aT BK127 1⟩ (fun hHeld=>?_)
 clear hK K
 refine cW (some 61) ?_
 refine cS (i:=16) (N:=some 62) (bm 18 131071) rfl rfl (bI HT_.out (by kernel_rfl)) (by decide) (fun K hK=>?_)
 refine Kd.R_lit_step gA _ 80 ?hg (N:=62) ?hd (xs:=([(⟨(aA t105 0).f0,(aA t105 0).f1⟩:dB),(⟨wrap64 ((wrap64 (((aA t105 0).f0)+1))+t112),wrap64 ((wrap64 (((aA t105 0).f1)+t115))-1)⟩:dB),(⟨t131,t132⟩:dB),(⟨(aA t105 2).f0,(aA t105 2).f1⟩:dB),(⟨wrap64 ((wrap64 (((aA t105 2).f0)+t121))-1),wrap64 ((wrap64 (((aA t105 2).f1)+1))+t124)⟩:dB),(⟨t136,t137⟩:dB)]:List (dB))) (inner:=[.int .i64 ((aA t105 0).f0),.int .i64 ((aA t105 0).f1),.int .i64 (wrap64 ((wrap64 (((aA t105 0).f0)+1))+t112)),.int .i64 (wrap64 ((wrap64 (((aA t105 0).f1)+t115))-1)),.int .i64 t131,.int .i64 t132,.int .i64 ((aA t105 2).f0),.int .i64 ((aA t105 2).f1),.int .i64 (wrap64 ((wrap64 (((aA t105 2).f0)+t121))-1)),.int .i64 (wrap64 ((wrap64 (((aA t105 2).f1)+1))+t124)),.int .i64 t136,.int .i64 t137]) (ok:=fun _=>True) (okp:=fun _=>True) ?hr ?hp (fun _ hk=>hk) trivial (Below.refl _ _) (Nat.le_refl _) (by simp) ?_;(case hd=>rfl);(case hg=>rfl);(case hr=>first|(go_simp;done)|(go_simp;rfl));(case hp=>exact (iK (show Kd.M gA _ _ _ (⟨(aA t105 0).f0,(aA t105 0).f1⟩:dB) [.int .i64 ((aA t105 0).f0),.int .i64 ((aA t105 0).f1)] from (gE _ _ _ (⟨(aA t105 0).f0,(aA t105 0).f1⟩:dB) )) (iK (show Kd.M gA _ _ _ (⟨wrap64 ((wrap64 (((aA t105 0).f0)+1))+t112),wrap64 ((wrap64 (((aA t105 0).f1)+t115))-1)⟩:dB) [.int .i64 (wrap64 ((wrap64 (((aA t105 0).f0)+1))+t112)),.int .i64 (wrap64 ((wrap64 (((aA t105 0).f1)+t115))-1))] from (gE _ _ _ (⟨wrap64 ((wrap64 (((aA t105 0).f0)+1))+t112),wrap64 ((wrap64 (((aA t105 0).f1)+t115))-1)⟩:dB) )) (iK (show Kd.M gA _ _ _ (⟨t131,t132⟩:dB) [.int .i64 t131,.int .i64 t132] from (gE _ _ _ (⟨t131,t132⟩:dB) )) (iK (show Kd.M gA _ _ _ (⟨(aA t105 2).f0,(aA t105 2).f1⟩:dB) [.int .i64 ((aA t105 2).f0),.int .i64 ((aA t105 2).f1)] from (gE _ _ _ (⟨(aA t105 2).f0,(aA t105 2).f1⟩:dB) )) (iK (show Kd.M gA _ _ _ (⟨wrap64 ((wrap64 (((aA t105 2).f0)+t121))-1),wrap64 ((wrap64 (((aA t105 2).f1)+1))+t124)⟩:dB) [.int .i64 (wrap64 ((wrap64 (((aA t105 2).f0)+t121))-1)),.int .i64 (wrap64 ((wrap64 (((aA t105 2).f1)+1))+t124))] from (gE _ _ _ (⟨wrap64 ((wrap64 (((aA t105 2).f0)+t121))-1),wrap64 ((wrap64 (((aA t105 2).f1)+1))+t124)⟩:dB) )) (iK (show Kd.M gA _ _ _ (⟨t136,t137⟩:dB) [.int .i64 t136,.int .i64 t137] from (gE _ _ _ (⟨t136,t137⟩:dB) )) (iE.none _ _))))))))
 intro v139 w55 ho56 hb hg_ hnew_
 clear hg_ hnew_
 (first|rw [← Ny138.out] at ho56|(simp only [Int.reduceToNat] at ho56;rw [← Ny138.out] at ho56))
 have HO140:=aD (Kd.R_lower (Kd.R_newB (Kd.R_newB (Kd.R_newB (Kd.R_newB (Kd.R_new' ho56 (Kd.R_lt (bN HO107))) (g:=gb111) (o:=.cells #[.int .i64 ((aA t105 0).f0),.int .i64 ((aA t105 0).f1)] 80 (0,0)) (cF BK111)) (g:=gb118) (o:=.cells #[.int .i64 (wrap64 ((wrap64 (((aA t105 0).f0)+1))+t112)),.int .i64 (wrap64 ((wrap64 (((aA t105 0).f1)+t115))-1))] 80 (0,0)) (cF BK118)) (g:=gb120) (o:=.cells #[.int .i64 ((aA t105 2).f0),.int .i64 ((aA t105 2).f1)] 80 (0,0)) (cF BK120)) (g:=gb127) (o:=.cells #[.int .i64 (wrap64 ((wrap64 (((aA t105 2).f0)+t121))-1)),.int .i64 (wrap64 ((wrap64 (((aA t105 2).f1)+1))+t124))] 80 (0,0)) (cF BK127)) (aM (cM HB (aJ HI104.out))))
 replace HO107:=aD (Kd.R_elder' (bN HO107) (Kd.R_base ho56) hb)
 replace BK111:=aD (aU BK111 hb)
 replace BK118:=aD (aU BK118 hb)
 replace BK120:=aD (aU BK120 hb)
 replace BK127:=aD (aU BK127 hb)
 replace HB:=aD (aE (cM HB (aJ HI104.out)) hb)
 replace HI104:=aD (aX.below (aR HI104) hb)
 clear hb ho56
 refine hK.out _ _ ⟨aT BK111 0,aT BK111 1,aT BK118 0,aT BK118 1,aT BK120 0,aT BK120 1,aT BK127 0,aT BK127 1⟩ (fun hHeld=>?_)
 clear hK K
 refine cW (some 62) ?_
 refine dG ((0,17,9,262143)::[]) ?_
 iterate 1 (first|refine jT HT_ ?_)
 refine bL ?_
 refine dD (dZ HT_.out (by kernel_rfl)) ?_
 have H:=HKEEP.out
 clear HKEEP
 by_cases c15:t141=true
 ·subst c15
  rw [if_pos rfl] at H
  obtain ⟨c16,H⟩:=iC H
  have c16b0:=decide_eq_true c16
  have c16b1:decide (1<t105.length)=true:=decide_eq_true (by omega)
  clear c16
  obtain ⟨c17,H⟩:=iC H
  have c17b0:=decide_eq_true c17
  have c17b1:decide (2<y138.length)=true:=decide_eq_true (by omega)
  clear c17
  obtain ⟨y145,hy145⟩:∃ y_:List (dB),y_=(y138.set (2:Int).toNat (⟨(aA t105 1).f0,(aA t105 1).f1⟩:dB)):=⟨_,rfl⟩
  first|(with_reducible replace H:=uU hy145 H)|(with_reducible replace H:=uV hy145 H)|rw [← hy145] at H
  have Ny145:=aD hy145
  clear hy145
  replace H:=fQ H
  obtain ⟨⟨t146,t147,t148⟩,A19,H⟩:=H
  try dsimp only at H
  by_cases c20:t146=true
  ·subst c20
   rw [if_pos rfl] at H
   obtain ⟨c21,H⟩:=iC H
   have c21b0:=eq_true c21
   have c21b1:=decide_eq_true c21
   clear c21
   obtain ⟨y149,hy149⟩:∃ y_:List (dB),y_=(y145.take (5:Int).toNat):=⟨_,rfl⟩
   first|(with_reducible replace H:=uU hy149 H)|(with_reducible replace H:=uV hy149 H)|rw [← hy149] at H
   have Ny149:=aD hy149
   clear hy149
   obtain rfl:=Option.some.inj H
   try go_wp2_with (first|((with_reducible refine aV (f:=107) rfl ?_);refine bK (some 64) Try.func107 #[.pointer (some ⟨g104,0,none⟩),.int .i64 8] ?_;(with_reducible refine (cI g104 t101 t134 t135 8 true t142 t143 w _ ?side1 ?side2 A14.out).mono ?_);(case side1=>exact aR HI104);(case side2=>exact cM HB (aJ HI104.out));rintro e w57 ⟨rfl,hi,hb,hk⟩;refine ⟨_,rfl,?_⟩;replace HO107:=aD (Kd.R_mono (Kd.R_keep (aX.apart (show aX w _ g104 t101 t134 t135 from aR HI104) (bN HO107) (by decide)) hk (fun _ h=>h.2)) (fun _ h=>h.1));replace HO140:=aD (Kd.R_mono (Kd.R_keep (aX.apart (show aX w _ g104 t101 t134 t135 from aR HI104) (bN HO140) (by decide)) hk (fun _ h=>h.2)) (fun _ h=>h.1));replace HB:=aD (hb);replace HI104:=aD (hi);(try clear hb);(try clear hb2);(try clear hk);(try clear hi);have p144:0≤(1:Int):=(by omega);have q144:1<(t105.length:Int):=dX;obtain ⟨ad144,e144,hx144_0,hx144_1⟩:=cC (Kd.R_reads' HO107.out).2.2 1 p144 q144;obtain rfl:ad110=ad144:=(by injection e144);(try simp only [show (1:Int).toNat=1 from rfl,Nat.reduceMul,Nat.reduceEqDiff,Go.Addr.add,↓reduceIte] at hx144_0);(try simp only [show (1:Int).toNat=1 from rfl,Nat.reduceMul,Nat.reduceEqDiff,Go.Addr.add,↓reduceIte] at hx144_1);have qi144:(1<t105.length)=True:=eq_true (by omega);(try rw [show ((1:Int)).toNat=1 from rfl] at hx144_0);(try rw [show 1*2=2 from rfl] at hx144_0);(try rw [show ((1:Int)).toNat=1 from rfl] at hx144_1);(try rw [show 1*2=2 from rfl] at hx144_1);replace p144:=eq_true p144;replace q144:=eq_true q144;have p18:0≤(2:Int):=(by omega);have q18:(2:Int)<((y138.length:Int):Int):=dX;have qi18:(2<y138.length)=True:=eq_true (by omega);obtain ⟨go18,co18,eo18,gb18,gl18,cl18,HG18⟩:=Kd.R_form HO140.out (by omega);(first|cases eo18|(injection eo18 with ea_ en_ ec_;(first|subst ea_|(injection ea_ with ea_;subst ea_));subst ec_;clear en_));have GB18:=aD gb18;have GG18:=aD HG18;clear gb18 gl18 HG18;obtain ⟨ce18,hcl18,hM18,hcc18,hfr18⟩:=Kd.R_elem HO140.out CB (2:Int) p18 q18;obtain rfl:=pF hM18;have hx18_0:w57.cell? ⟨go18,(2:Int).toNat*2,none⟩=some (.int .i64 ((aA y138 2).f0)):=hcc18 0 _ rfl;have hx18_1:w57.cell? ⟨go18,(2:Int).toNat*2+1,none⟩=some (.int .i64 ((aA y138 2).f1)):=hcc18 1 _ rfl;have hf18_0:w57.frozen? ⟨go18,(2:Int).toNat*2,none⟩=false:=hfr18 0;have hf18_1:w57.frozen? ⟨go18,(2:Int).toNat*2+1,none⟩=false:=hfr18 1;clear hcl18 hcc18 hfr18 hM18;(try rw [show ((2:Int)).toNat=2 from rfl] at hx18_0);(try simp only [Nat.reduceMul,Nat.zero_mul,Nat.zero_add,Nat.reduceAdd] at hx18_0);(try rw [show ((2:Int)).toNat=2 from rfl] at hf18_0);(try simp only [Nat.reduceMul,Nat.zero_mul,Nat.zero_add,Nat.reduceAdd] at hf18_0);(try rw [show ((2:Int)).toNat=2 from rfl] at hx18_1);(try simp only [Nat.reduceMul,Nat.zero_mul,Nat.zero_add,Nat.reduceAdd] at hx18_1);(try rw [show ((2:Int)).toNat=2 from rfl] at hf18_1);(try simp only [Nat.reduceMul,Nat.zero_mul,Nat.zero_add,Nat.reduceAdd] at hf18_1);replace p18:=eq_true p18;replace q18:=eq_true q18;have n_:=aD (Kd.R_mono (ok':=(fun k_=>some k_≠(.slice (some ad110) t105.length co24:Value).ownBlock∧k_≠gb111∧k_≠gb118∧k_≠gb120∧k_≠gb127)) HO140.out (fun k_ hk=>⟨hk.1.1.1.1.2,⟨hk.1.1.1.2,⟨hk.1.1.2,⟨hk.1.2,hk.2⟩⟩⟩⟩));clear HO140;have HO140:=n_;clear n_;have HX58:=aD (show Kd.R gA 80 w57 w.heap.size (fun k_=>some k_≠(.slice (some ad110) t105.length co24:Value).ownBlock∧k_≠gb111∧k_≠gb118∧k_≠gb120∧k_≠gb127) (.slice (some ⟨go18,0,none⟩) y138.length co18) y138 from (bN HO140));obtain ⟨ce58,hcl58,hM58,hcc58,hfr58⟩:=Kd.R_elem HX58.out CB (2:Int) (by omega) (by have h_:(2:Int)<((y138.length:Int):Int):=dX;first|exact h_|(have e_:=(Kd.R_reads' HO140.out).1;omega)|simpa using h_);obtain rfl:=pF hM58;have HP58:=Kd.R_seg HX58.out (2:Int) (by omega) (by have h_:(2:Int)<((y138.length:Int):Int):=dX;first|exact h_|(have e_:=(Kd.R_reads' HO140.out).1;omega)|simpa using h_) (seg:=[.int .i64 ((aA t105 1).f0),.int .i64 ((aA t105 1).f1)]) (j:=0) hcl58 hcc58 (show 2≤2 from by decide) (x':=(⟨(aA t105 1).f0,(aA t105 1).f1⟩:dB)) (gE _ _ _ (⟨(aA t105 1).f0,(aA t105 1).f1⟩:dB) ) (fun _ hk=>hk);have hx58_0:=hcc58 0 _ rfl;(try simp only [show (gA).sz=2 from rfl,Nat.mul_one,Nat.add_zero] at hx58_0);(try rw [show ((2:Int)).toNat=2 from rfl] at hx58_0);(try simp only [Nat.reduceMul,Nat.zero_mul,Nat.zero_add,Nat.reduceAdd] at hx58_0);have hf58_0:=hfr58 0;(try simp only [show (gA).sz=2 from rfl,Nat.mul_one,Nat.add_zero] at hf58_0);(try rw [show ((2:Int)).toNat=2 from rfl] at hf58_0);(try simp only [Nat.reduceMul,Nat.zero_mul,Nat.zero_add,Nat.reduceAdd] at hf58_0);have hx58_1:=hcc58 1 _ rfl;(try simp only [show (gA).sz=2 from rfl,Nat.mul_one,Nat.add_zero] at hx58_1);(try rw [show ((2:Int)).toNat=2 from rfl] at hx58_1);(try simp only [Nat.reduceMul,Nat.zero_mul,Nat.zero_add,Nat.reduceAdd] at hx58_1);have hf58_1:=hfr58 1;(try simp only [show (gA).sz=2 from rfl,Nat.mul_one,Nat.add_zero] at hf58_1);(try rw [show ((2:Int)).toNat=2 from rfl] at hf58_1);(try simp only [Nat.reduceMul,Nat.zero_mul,Nat.zero_add,Nat.reduceAdd] at hf58_1);clear hcl58 hcc58 hfr58 hM58)|((with_reducible refine tP (t:=80) (p:=69) rfl ?_);refine sN (t:=80) (p:=69) (v:=?vo_w59) (w1:=((w57.setCell ⟨go18,4,none⟩ (.int .i64 ((aA t105 1).f0))).setCell ⟨go18,5,none⟩ (.int .i64 ((aA t105 1).f1)))) ?hg ?ho ?hn ?hr ?_;(case ho=>rfl);(case hg=>rfl);(case hn=>rfl);(case hr=>first|(go_simp;done)|(go_simp;rfl));intro w59 hw;have hg:w57.grownBy w59 (some go18):=(by rw [hw];exact HP58.2);have hp_:Kd.R gA 80 w59 w.heap.size (fun k_=>some k_≠(.slice (some ad110) t105.length co24:Value).ownBlock∧k_≠gb111∧k_≠gb118∧k_≠gb120∧k_≠gb127) (.slice (some ⟨go18,0,none⟩) y138.length co18) y145:=(by rw [hw,Ny145.out];exact HP58.1);clear HP58;replace HI104:=aD (aX.grown (aR HI104) hg (aY HI104.out HO140.out (by decide)));replace HO140:=aD (hp_);replace HB:=aD ((by rw [hw];exact iH (iH (HB.out) GB18.out) GB18.out:Below w.heap.size w w59));clear hg hw hp_)|((with_reducible refine aV (f:=107) rfl ?_);refine bK (some 71) Try.func107 #[.pointer (some ⟨g104,0,none⟩),.int .i64 16] ?_;(with_reducible refine (cI g104 t101 t142 t143 16 true t147 t148 w _ ?side1 ?side2 A19.out).mono ?_);(case side1=>exact aR HI104);(case side2=>exact cM HB (aJ HI104.out));rintro e w60 ⟨rfl,hi,hb,hk⟩;refine ⟨_,rfl,?_⟩;replace HO140:=aD (Kd.R_mono (Kd.R_keep (aX.apart (show aX w _ g104 t101 t142 t143 from aR HI104) (bN HO140) (by decide)) hk (fun _ h=>h.2)) (fun _ h=>h.1));replace HB:=aD (hb);replace HI104:=aD (hi);(try clear hb);(try clear hb2);(try clear hk);(try clear hi);have q61:(5:Int)≤((y138.length:Int):Int):=dX;obtain ⟨i061,hi061,_,hsz61,_⟩:=info_parts qA;have hcut61:=vY (P:=Try.prog) 61 80 .i64 Try.underlying61 hi061 (some ⟨go18,0,none⟩) y138.length co18 5 (by omega) q61 (Kd.R_reads' HO140.out).2.1;(first|(have hr61:=Kd.R_take (m:=(5:Int).toNat) HO140.out (by omega))|(have h_:=HO140.out;rw [show y138.length=y145.length from by rw [Ny145.out,List.length_set]] at h_;have hr61:=Kd.R_take (m:=(5:Int).toNat) h_ (by rw [Ny145.out,List.length_set];omega)));have hy61:y149.length=(5:Int).toNat:=(by rw [Ny149.out,List.length_take];first|omega|(rw [Ny145.out,List.length_set];omega));rw [← Ny149.out] at hr61;rw [← hy61] at hr61 hcut61;clear hy61 hi061 hsz61 HO140;have HO151:=aD hr61;clear hr61;replace q61:=eq_true q61))
   go_ret
   exact ⟨_,dA,by (with_reducible repeat (first|apply fK|apply gF|apply eQ));exact Kd.R_mono HO151.out (fun _ hk=>trivial),cM HB (aJ HI104.out)⟩
  ·replace c20:=Bool.eq_false_iff.mpr c20
   subst c20
   rw [if_neg (show ¬ (false=true) by decide)] at H
   obtain rfl:=Option.some.inj H
   try go_wp2_with (first|((with_reducible refine aV (f:=107) rfl ?_);refine bK (some 64) Try.func107 #[.pointer (some ⟨g104,0,none⟩),.int .i64 8] ?_;(with_reducible refine (cI g104 t101 t134 t135 8 true t142 t143 w _ ?side1 ?side2 A14.out).mono ?_);(case side1=>exact aR HI104);(case side2=>exact cM HB (aJ HI104.out));rintro e w97 ⟨rfl,hi,hb,hk⟩;refine ⟨_,rfl,?_⟩;replace HO107:=aD (Kd.R_mono (Kd.R_keep (aX.apart (show aX w _ g104 t101 t134 t135 from aR HI104) (bN HO107) (by decide)) hk (fun _ h=>h.2)) (fun _ h=>h.1));replace HO140:=aD (Kd.R_mono (Kd.R_keep (aX.apart (show aX w _ g104 t101 t134 t135 from aR HI104) (bN HO140) (by decide)) hk (fun _ h=>h.2)) (fun _ h=>h.1));replace HB:=aD (hb);replace HI104:=aD (hi);(try clear hb);(try clear hb2);(try clear hk);(try clear hi);have p144:0≤(1:Int):=(by omega);have q144:1<(t105.length:Int):=dX;obtain ⟨ad144,e144,hx144_0,hx144_1⟩:=cC (Kd.R_reads' HO107.out).2.2 1 p144 q144;obtain rfl:ad110=ad144:=(by injection e144);(try simp only [show (1:Int).toNat=1 from rfl,Nat.reduceMul,Nat.reduceEqDiff,Go.Addr.add,↓reduceIte] at hx144_0);(try simp only [show (1:Int).toNat=1 from rfl,Nat.reduceMul,Nat.reduceEqDiff,Go.Addr.add,↓reduceIte] at hx144_1);have qi144:(1<t105.length)=True:=eq_true (by omega);(try rw [show ((1:Int)).toNat=1 from rfl] at hx144_0);(try rw [show 1*2=2 from rfl] at hx144_0);(try rw [show ((1:Int)).toNat=1 from rfl] at hx144_1);(try rw [show 1*2=2 from rfl] at hx144_1);replace p144:=eq_true p144;replace q144:=eq_true q144;have p18:0≤(2:Int):=(by omega);have q18:(2:Int)<((y138.length:Int):Int):=dX;have qi18:(2<y138.length)=True:=eq_true (by omega);obtain ⟨go18,co18,eo18,gb18,gl18,cl18,HG18⟩:=Kd.R_form HO140.out (by omega);(first|cases eo18|(injection eo18 with ea_ en_ ec_;(first|subst ea_|(injection ea_ with ea_;subst ea_));subst ec_;clear en_));have GB18:=aD gb18;have GG18:=aD HG18;clear gb18 gl18 HG18;obtain ⟨ce18,hcl18,hM18,hcc18,hfr18⟩:=Kd.R_elem HO140.out CB (2:Int) p18 q18;obtain rfl:=pF hM18;have hx18_0:w97.cell? ⟨go18,(2:Int).toNat*2,none⟩=some (.int .i64 ((aA y138 2).f0)):=hcc18 0 _ rfl;have hx18_1:w97.cell? ⟨go18,(2:Int).toNat*2+1,none⟩=some (.int .i64 ((aA y138 2).f1)):=hcc18 1 _ rfl;have hf18_0:w97.frozen? ⟨go18,(2:Int).toNat*2,none⟩=false:=hfr18 0;have hf18_1:w97.frozen? ⟨go18,(2:Int).toNat*2+1,none⟩=false:=hfr18 1;clear hcl18 hcc18 hfr18 hM18;(try rw [show ((2:Int)).toNat=2 from rfl] at hx18_0);(try simp only [Nat.reduceMul,Nat.zero_mul,Nat.zero_add,Nat.reduceAdd] at hx18_0);(try rw [show ((2:Int)).toNat=2 from rfl] at hf18_0);(try simp only [Nat.reduceMul,Nat.zero_mul,Nat.zero_add,Nat.reduceAdd] at hf18_0);(try rw [show ((2:Int)).toNat=2 from rfl] at hx18_1);(try simp only [Nat.reduceMul,Nat.zero_mul,Nat.zero_add,Nat.reduceAdd] at hx18_1);(try rw [show ((2:Int)).toNat=2 from rfl] at hf18_1);(try simp only [Nat.reduceMul,Nat.zero_mul,Nat.zero_add,Nat.reduceAdd] at hf18_1);replace p18:=eq_true p18;replace q18:=eq_true q18;have n_:=aD (Kd.R_mono (ok':=(fun k_=>some k_≠(.slice (some ad110) t105.length co24:Value).ownBlock∧k_≠gb111∧k_≠gb118∧k_≠gb120∧k_≠gb127)) HO140.out (fun k_ hk=>⟨hk.1.1.1.1.2,⟨hk.1.1.1.2,⟨hk.1.1.2,⟨hk.1.2,hk.2⟩⟩⟩⟩));clear HO140;have HO140:=n_;clear n_;have HX98:=aD (show Kd.R gA 80 w97 w.heap.size (fun k_=>some k_≠(.slice (some ad110) t105.length co24:Value).ownBlock∧k_≠gb111∧k_≠gb118∧k_≠gb120∧k_≠gb127) (.slice (some ⟨go18,0,none⟩) y138.length co18) y138 from (bN HO140));obtain ⟨ce98,hcl98,hM98,hcc98,hfr98⟩:=Kd.R_elem HX98.out CB (2:Int) (by omega) (by have h_:(2:Int)<((y138.length:Int):Int):=dX;first|exact h_|(have e_:=(Kd.R_reads' HO140.out).1;omega)|simpa using h_);obtain rfl:=pF hM98;have HP98:=Kd.R_seg HX98.out (2:Int) (by omega) (by have h_:(2:Int)<((y138.length:Int):Int):=dX;first|exact h_|(have e_:=(Kd.R_reads' HO140.out).1;omega)|simpa using h_) (seg:=[.int .i64 ((aA t105 1).f0),.int .i64 ((aA t105 1).f1)]) (j:=0) hcl98 hcc98 (show 2≤2 from by decide) (x':=(⟨(aA t105 1).f0,(aA t105 1).f1⟩:dB)) (gE _ _ _ (⟨(aA t105 1).f0,(aA t105 1).f1⟩:dB) ) (fun _ hk=>hk);have hx98_0:=hcc98 0 _ rfl;(try simp only [show (gA).sz=2 from rfl,Nat.mul_one,Nat.add_zero] at hx98_0);(try rw [show ((2:Int)).toNat=2 from rfl] at hx98_0);(try simp only [Nat.reduceMul,Nat.zero_mul,Nat.zero_add,Nat.reduceAdd] at hx98_0);have hf98_0:=hfr98 0;(try simp only [show (gA).sz=2 from rfl,Nat.mul_one,Nat.add_zero] at hf98_0);(try rw [show ((2:Int)).toNat=2 from rfl] at hf98_0);(try simp only [Nat.reduceMul,Nat.zero_mul,Nat.zero_add,Nat.reduceAdd] at hf98_0);have hx98_1:=hcc98 1 _ rfl;(try simp only [show (gA).sz=2 from rfl,Nat.mul_one,Nat.add_zero] at hx98_1);(try rw [show ((2:Int)).toNat=2 from rfl] at hx98_1);(try simp only [Nat.reduceMul,Nat.zero_mul,Nat.zero_add,Nat.reduceAdd] at hx98_1);have hf98_1:=hfr98 1;(try simp only [show (gA).sz=2 from rfl,Nat.mul_one,Nat.add_zero] at hf98_1);(try rw [show ((2:Int)).toNat=2 from rfl] at hf98_1);(try simp only [Nat.reduceMul,Nat.zero_mul,Nat.zero_add,Nat.reduceAdd] at hf98_1);clear hcl98 hcc98 hfr98 hM98)|((with_reducible refine tP (t:=80) (p:=69) rfl ?_);refine sN (t:=80) (p:=69) (v:=?vo_w99) (w1:=((w97.setCell ⟨go18,4,none⟩ (.int .i64 ((aA t105 1).f0))).setCell ⟨go18,5,none⟩ (.int .i64 ((aA t105 1).f1)))) ?hg ?ho ?hn ?hr ?_;(case ho=>rfl);(case hg=>rfl);(case hn=>rfl);(case hr=>first|(go_simp;done)|(go_simp;rfl));intro w99 hw;have hg:w97.grownBy w99 (some go18):=(by rw [hw];exact HP98.2);have hp_:Kd.R gA 80 w99 w.heap.size (fun k_=>some k_≠(.slice (some ad110) t105.length co24:Value).ownBlock∧k_≠gb111∧k_≠gb118∧k_≠gb120∧k_≠gb127) (.slice (some ⟨go18,0,none⟩) y138.length co18) y145:=(by rw [hw,Ny145.out];exact HP98.1);clear HP98;replace HI104:=aD (aX.grown (aR HI104) hg (aY HI104.out HO140.out (by decide)));replace HO140:=aD (hp_);replace HB:=aD ((by rw [hw];exact iH (iH (HB.out) GB18.out) GB18.out:Below w.heap.size w w99));clear hg hw hp_)|((with_reducible refine aV (f:=107) rfl ?_);refine bK (some 71) Try.func107 #[.pointer (some ⟨g104,0,none⟩),.int .i64 16] ?_;(with_reducible refine (cI g104 t101 t142 t143 16 false t147 t148 w _ ?side1 ?side2 A19.out).mono ?_);(case side1=>exact aR HI104);(case side2=>exact cM HB (aJ HI104.out));rintro e w100 ⟨rfl,hi,hb,hk⟩;refine ⟨_,rfl,?_⟩;replace HO140:=aD (Kd.R_mono (Kd.R_keep (aX.apart (show aX w _ g104 t101 t142 t143 from aR HI104) (bN HO140) (by decide)) hk (fun _ h=>h.2)) (fun _ h=>h.1));replace HB:=aD (hb);replace HI104:=aD (hi);(try clear hb);(try clear hb2);(try clear hk);(try clear hi)))
   go_ret
   exact ⟨_,dA,by (with_reducible repeat (first|apply fK|apply gF|apply eQ));exact Kd.R_mono HO140.out (fun _ hk=>trivial),cM HB (aJ HI104.out)⟩
 ·replace c15:=Bool.eq_false_iff.mpr c15
  subst c15
  rw [if_neg (show ¬ (false=true) by decide)] at H
  replace H:=fQ H
  obtain ⟨⟨t152,t153,t154⟩,A101,H⟩:=H
  try dsimp only at H
  by_cases c102:t152=true
  ·subst c102
   rw [if_pos rfl] at H
   obtain ⟨c103,H⟩:=iC H
   have c103b0:=eq_true c103
   have c103b1:=decide_eq_true c103
   clear c103
   obtain ⟨y155,hy155⟩:∃ y_:List (dB),y_=(y138.take (5:Int).toNat):=⟨_,rfl⟩
   first|(with_reducible replace H:=uU hy155 H)|(with_reducible replace H:=uV hy155 H)|rw [← hy155] at H
   have Ny155:=aD hy155
   clear hy155
   obtain rfl:=Option.some.inj H
   try go_wp2_with (first|((with_reducible refine aV (f:=107) rfl ?_);refine bK (some 64) Try.func107 #[.pointer (some ⟨g104,0,none⟩),.int .i64 8] ?_;(with_reducible refine (cI g104 t101 t134 t135 8 false t142 t143 w _ ?side1 ?side2 A14.out).mono ?_);(case side1=>exact aR HI104);(case side2=>exact cM HB (aJ HI104.out));rintro e w139 ⟨rfl,hi,hb,hk⟩;refine ⟨_,rfl,?_⟩;replace HO140:=aD (Kd.R_mono (Kd.R_keep (aX.apart (show aX w _ g104 t101 t134 t135 from aR HI104) (bN HO140) (by decide)) hk (fun _ h=>h.2)) (fun _ h=>h.1));replace HB:=aD (hb);replace HI104:=aD (hi);(try clear hb);(try clear hb2);(try clear hk);(try clear hi))|((with_reducible refine aV (f:=107) rfl ?_);refine bK (some 71) Try.func107 #[.pointer (some ⟨g104,0,none⟩),.int .i64 16] ?_;(with_reducible refine (cI g104 t101 t142 t143 16 true t153 t154 w _ ?side1 ?side2 A101.out).mono ?_);(case side1=>exact aR HI104);(case side2=>exact cM HB (aJ HI104.out));rintro e w140 ⟨rfl,hi,hb,hk⟩;refine ⟨_,rfl,?_⟩;replace HO140:=aD (Kd.R_mono (Kd.R_keep (aX.apart (show aX w _ g104 t101 t142 t143 from aR HI104) (bN HO140) (by decide)) hk (fun _ h=>h.2)) (fun _ h=>h.1));replace HB:=aD (hb);replace HI104:=aD (hi);(try clear hb);(try clear hb2);(try clear hk);(try clear hi);obtain ⟨Ao141,co141,eo141⟩:=Kd.R_slice HO140.out;subst eo141;have q142:(5:Int)≤((y138.length:Int):Int):=dX;obtain ⟨i0142,hi0142,_,hsz142,_⟩:=info_parts qA;have hcut142:=vY (P:=Try.prog) 61 80 .i64 Try.underlying61 hi0142 Ao141 y138.length co141 5 (by omega) q142 (Kd.R_reads' HO140.out).2.1;(first|(have hr142:=Kd.R_take (m:=(5:Int).toNat) HO140.out (by omega))|(have h_:=HO140.out;rw [show y138.length=y145.length from by rw [Ny145.out,List.length_set]] at h_;have hr142:=Kd.R_take (m:=(5:Int).toNat) h_ (by rw [Ny145.out,List.length_set];omega)));have hy142:y155.length=(5:Int).toNat:=(by rw [Ny155.out,List.length_take];first|omega|(rw [Ny145.out,List.length_set];omega));rw [← Ny155.out] at hr142;rw [← hy142] at hr142 hcut142;clear hy142 hi0142 hsz142 HO140;have HO157:=aD hr142;clear hr142;replace q142:=eq_true q142))
   go_ret
   exact ⟨_,dA,by (with_reducible repeat (first|apply fK|apply gF|apply eQ));exact Kd.R_mono HO157.out (fun _ hk=>trivial),cM HB (aJ HI104.out)⟩
  ·replace c102:=Bool.eq_false_iff.mpr c102
   subst c102
   rw [if_neg (show ¬ (false=true) by decide)] at H
   obtain rfl:=Option.some.inj H
   try go_wp2_with (first|((with_reducible refine aV (f:=107) rfl ?_);refine bK (some 64) Try.func107 #[.pointer (some ⟨g104,0,none⟩),.int .i64 8] ?_;(with_reducible refine (cI g104 t101 t134 t135 8 false t142 t143 w _ ?side1 ?side2 A14.out).mono ?_);(case side1=>exact aR HI104);(case side2=>exact cM HB (aJ HI104.out));rintro e w178 ⟨rfl,hi,hb,hk⟩;refine ⟨_,rfl,?_⟩;replace HO140:=aD (Kd.R_mono (Kd.R_keep (aX.apart (show aX w _ g104 t101 t134 t135 from aR HI104) (bN HO140) (by decide)) hk (fun _ h=>h.2)) (fun _ h=>h.1));replace HB:=aD (hb);replace HI104:=aD (hi);(try clear hb);(try clear hb2);(try clear hk);(try clear hi))|((with_reducible refine aV (f:=107) rfl ?_);refine bK (some 71) Try.func107 #[.pointer (some ⟨g104,0,none⟩),.int .i64 16] ?_;(with_reducible refine (cI g104 t101 t142 t143 16 false t153 t154 w _ ?side1 ?side2 A101.out).mono ?_);(case side1=>exact aR HI104);(case side2=>exact cM HB (aJ HI104.out));rintro e w179 ⟨rfl,hi,hb,hk⟩;refine ⟨_,rfl,?_⟩;replace HO140:=aD (Kd.R_mono (Kd.R_keep (aX.apart (show aX w _ g104 t101 t142 t143 from aR HI104) (bN HO140) (by decide)) hk (fun _ h=>h.2)) (fun _ h=>h.1));replace HB:=aD (hb);replace HI104:=aD (hi);(try clear hb);(try clear hb2);(try clear hk);(try clear hi)))
   go_ret
   exact ⟨_,dA,by (with_reducible repeat (first|apply fK|apply gF|apply eQ));exact Kd.R_mono HO140.out (fun _ hk=>trivial),cM HB (aJ HI104.out)⟩
/-! ### spec_l26Pair: function 139 -/
def dW:Nat→List (dB)→List (dB)→Int→List Int→Int→Int→Int→Int→Option ((List (dB)))
 | 0,_,_,_,_,_,_,_,_=>none
 | k+1,x4,x6,x7,x105000,x105001,x105002,x117000,x117001=>if x7<3 then (if 0≤x7 then (if x7<(x4.length:Int) then ((spec_l1PickInt.f x105000 x105001 x105002 (([2,(-1),3,(-2)]:List Int))).bind fun bt127=>((spec_l26Far.f x117000 x117001 ((aA x4 x7).f0) ((aA x4 x7).f1) bt127.1).bind fun bt130=>((spec_l1Once.f x105000 bt127.2.1 bt127.2.2 8).bind fun bt133=>(if bt133.1=true then (if x6.length<8796093022208 then (dW k x4 (x6++[(⟨wrap64 (bt130.1+1),bt130.2⟩:dB)]) (wrap64 (x7+1)) x105000 bt133.2.1 bt133.2.2 x117000 x117001) else (none)) else (if x6.length<8796093022208 then (dW k x4 (x6++[(⟨bt130.1,bt130.2⟩:dB)]) (wrap64 (x7+1)) x105000 bt133.2.1 bt133.2.2 x117000 x117001) else (none)))))) else (none)) else (none)) else (some x6)
def spec_l26Pair.f (k:Nat) (l0:List Int):Option ((List (dB))):=(spec_l1New.f k l0).bind fun bt101=>((spec_l2Draw.f k bt101.1 bt101.2.1 bt101.2.2).bind fun bt105=>((spec_l1Below.f bt101.1 bt105.2.1 bt105.2.2 5).bind fun bt110=>((spec_l1Below.f bt101.1 bt110.2.1 bt110.2.2 5).bind fun bt113=>(if 0<(bt105.1.length:Int) then (if 1<(bt105.1.length:Int) then (if 2<(bt105.1.length:Int) then (dW k bt105.1 (([(⟨(aA bt105.1 0).f0,(aA bt105.1 0).f1⟩:dB),(⟨(aA bt105.1 1).f0,(aA bt105.1 1).f1⟩:dB),(⟨(aA bt105.1 2).f0,(aA bt105.1 2).f1⟩:dB)]:List (dB))) 0 bt101.1 bt113.2.1 bt113.2.2 (wrap64 (bt110.1-2)) (wrap64 (bt113.1-2))) else (none)) else (none)) else (none)))))
def nY:Bool×List (List Nat×List Nat):=(true,[([],[]),([0],[0]),([1],[1]),([],[]),([3],[3]),([4],[4]),([],[]),([6],[6]),([7],[7]),([2,5,8],[2,5,8]),([9,0,1,2,3,4,5,6,7,8,9],[9])])
def sZ:List Nat:=[0,1,3,0,8,24,0,64,192,511,1023]
theorem rI:gK .any (iQ Try.f139 4)=nY:=by kernel_rfl
theorem qN:eU nY.2 sZ=true:=by kernel_rfl
def nZ:Bool×List (List Nat×List Nat):=(true,[([],[]),([],[]),([],[]),([1,2],[1,2]),([3],[3]),([],[]),([],[]),([5,6],[5,6]),([0,4,7,7],[0,4,7]),([],[]),([9,8,8,0,1,2,3,4,5,6,7,8,9],[8,9])])
def tA:List Nat:=[0,0,0,6,14,0,0,96,255,0,1023]
theorem lP:gK .any (iQ Try.f139 8)=nZ:=by kernel_rfl
theorem kY:eU nZ.2 tA=true:=by kernel_rfl
set_option maxHeartbeats 8000000 in
set_option maxRecDepth 100000 in
theorem qO (k : Nat) (A0 : Option Addr) (c0 : Nat) (l0 : List Int) (r : List (dB)) (w : World) (hr0 : Kd.C (Kd.int .u8) w A0 l0.length l0) (hc0 : l0.length ≤ c0) (h : spec_l26Pair.f k l0 = some r) :
  Calls Try.prog 139 #[.slice A0 l0.length c0] w fun e w'=>∃ v0_:Value,e=.returned (v0_)∧Kd.R gA 80 w' w.heap.size (fun _=>True) v0_ r∧Below w.heap.size w w':=by
 have hu80:=Try.underlying80
 have HR0:=aD hr0
 have HC0:=aD hc0
 clear hr0 hc0
 have HB:=aD (Below.refl w.heap.size w)
 unfold spec_l26Pair.f at h
 have H:=h
 clear h
 replace H:=fQ H
 obtain ⟨⟨t101,t102,t103⟩,A2,H⟩:=H
 try dsimp only at H
 replace H:=fQ H
 obtain ⟨⟨t105,t108,t109⟩,A3,H⟩:=H
 try dsimp only at H
 replace H:=fQ H
 obtain ⟨⟨t110,t111,t112⟩,A4,H⟩:=H
 try dsimp only at H
 replace H:=fQ H
 obtain ⟨⟨t113,t114,t115⟩,A5,H⟩:=H
 try dsimp only at H
 obtain ⟨c6,H⟩:=iC H
 have c6b0:=decide_eq_true c6
 have c6b1:decide (0<t105.length)=true:=decide_eq_true (by omega)
 clear c6
 obtain ⟨c7,H⟩:=iC H
 have c7b0:=decide_eq_true c7
 have c7b1:decide (1<t105.length)=true:=decide_eq_true (by omega)
 clear c7
 obtain ⟨c8,H⟩:=iC H
 have c8b0:=decide_eq_true c8
 have c8b1:decide (2<t105.length)=true:=decide_eq_true (by omega)
 clear c8
 obtain ⟨y120,hy120⟩:∃ y_:List (dB),y_=(([(⟨(aA t105 0).f0,(aA t105 0).f1⟩:dB),(⟨(aA t105 1).f0,(aA t105 1).f1⟩:dB),(⟨(aA t105 2).f0,(aA t105 2).f1⟩:dB)]:List (dB))):=⟨_,rfl⟩
 first|(with_reducible replace H:=uU hy120 H)|(with_reducible replace H:=uV hy120 H)|rw [← hy120] at H
 have Ny120:=aD hy120
 clear hy120
 have H':=aD H
 clear H
 go_enter Try.func139,Try.ntmps139
 try go_wp2_with (first|((with_reducible refine aV (f:=99) rfl ?_);refine bK (some 10) Try.func99 #[.slice A0 l0.length c0] ?_;(with_reducible refine (fI k _ _ l0 t101 t102 t103 w _ ?side1 ?side2 ?side3 A2.out).mono ?_);(case side1=>exact bM HB);(case side2=>exact HR0.out);(case side3=>exact HC0.out);rintro e w9 ⟨g104,rfl,hi,hb,hb2⟩;refine ⟨_,rfl,?_⟩;replace HB:=aD (hb);have HI104:=aD (hi);(try clear hb);(try clear hb2);(try clear hk);(try clear hi))|((with_reducible refine aV (f:=137) rfl ?_);refine bK (some 12) Try.func137 #[.pointer (some ⟨g104,0,none⟩)] ?_;(with_reducible refine (jE k g104 t101 t102 t103 t105 t108 t109 w _ ?side1 ?side2 A3.out).mono ?_);(case side1=>exact aR HI104);(case side2=>exact cM HB (aJ HI104.out));rintro e w10 ⟨v106,rfl,ho0,hi,hb,hk⟩;refine ⟨_,rfl,?_⟩;have HO107:=aD (Kd.R_lower ho0 (aM (cM HB (aJ HI104.out))));replace HB:=aD (hb);replace HI104:=aD (hi);(try clear hb);(try clear hb2);(try clear hk);(try clear hi);(try clear ho0))|((with_reducible refine aV (f:=109) rfl ?_);refine bK (some 14) Try.func109 #[.pointer (some ⟨g104,0,none⟩),.int .i64 5] ?_;(with_reducible refine (bE g104 t101 t108 t109 5 t110 t111 t112 w _ ?side1 ?side2 A4.out).mono ?_);(case side1=>exact aR HI104);(case side2=>exact cM HB (aJ HI104.out));rintro e w11 ⟨rfl,hi,hb,hk⟩;refine ⟨_,rfl,?_⟩;replace HO107:=aD (Kd.R_mono (Kd.R_keep (aX.apart (show aX w _ g104 t101 t108 t109 from aR HI104) (bN HO107) (by decide)) hk (fun _ h=>h.2)) (fun _ h=>h.1));replace HB:=aD (hb);replace HI104:=aD (hi);(try clear hb);(try clear hb2);(try clear hk);(try clear hi))|((with_reducible refine aV (f:=109) rfl ?_);refine bK (some 17) Try.func109 #[.pointer (some ⟨g104,0,none⟩),.int .i64 5] ?_;(with_reducible refine (bE g104 t101 t111 t112 5 t113 t114 t115 w _ ?side1 ?side2 A5.out).mono ?_);(case side1=>exact aR HI104);(case side2=>exact cM HB (aJ HI104.out));rintro e w12 ⟨rfl,hi,hb,hk⟩;refine ⟨_,rfl,?_⟩;replace HO107:=aD (Kd.R_mono (Kd.R_keep (aX.apart (show aX w _ g104 t101 t111 t112 from aR HI104) (bN HO107) (by decide)) hk (fun _ h=>h.2)) (fun _ h=>h.1));replace HB:=aD (hb);replace HI104:=aD (hi);(try clear hb);(try clear hb2);(try clear hk);(try clear hi))|((with_reducible refine aW (N:=5) rfl ?_);refine bS (N:=5) #[.int .i64 0,.int .i64 0] 80 ?_;intro gb116 hg w13 hbox hb;replace HO107:=aD (Kd.R_below (Kd.R_elderB (bN HO107) gb116 (Nat.le_of_eq hg.symm)) hb);have BK116:=aD (hbox);have GW116:=aD ((by rw [hg];exact (aM (cM HB (aJ HI104.out))):w.heap.size≤gb116));have GE116:=aD ((by rw [hg];exact (aM (cM HB (aJ HI104.out))):w.heap.size≤gb116));replace HB:=aD (aE (cM HB (aJ HI104.out)) hb);have NB104_116:=aD ((by rw [hg];exact Nat.ne_of_lt (bF (show aX w _ g104 t101 t114 t115 from aR HI104)):g104≠gb116));have NB116_104:=aD ((by rw [hg];exact Nat.ne_of_gt (bF (show aX w _ g104 t101 t114 t115 from aR HI104)):gb116≠g104));replace HI104:=aD (aX.below (aR HI104) hb);clear hb hbox hg;have hnb14:=NB116_104.out;have hnc14:=NB104_116.out;have hcz15_0:=aT BK116 0;have hcz15_1:=aT BK116 1;have hfz15_0:=aC BK116.out 0;have hfz15_1:=aC BK116.out 1))
 replace HO107:Aside0 (Kd.R gA 80 ((w13.setCell ⟨gb116,0,none⟩ (.int .i64 (wrap64 (t110-2)))).setCell ⟨gb116,1,none⟩ (.int .i64 (wrap64 (t113-2)))) w.heap.size (fun k_=>k_≠gb116) v106 t105):=⟨by (with_reducible repeat (first|apply fK|apply gF|apply eQ));exact Kd.R_mono (Kd.R_far (p:=⟨gb116,1,none⟩) (Kd.R_far (p:=⟨gb116,0,none⟩) (Kd.R_mono HO107.out (fun k_ hk=>(⟨hk,hk.2⟩:_∧k_≠gb116))) (fun _ hk=>hk.2) (.int .i64 (wrap64 (t110-2)))) (fun _ hk=>hk.2) (.int .i64 (wrap64 (t113-2)))) (fun _ hk=>hk.1.2)⟩
 replace BK116:Aside0 (((w13.setCell ⟨gb116,0,none⟩ (.int .i64 (wrap64 (t110-2)))).setCell ⟨gb116,1,none⟩ (.int .i64 (wrap64 (t113-2)))).heap[gb116]? = some (.cells #[.int .i64 (wrap64 (t110-2)),.int .i64 (wrap64 (t113-2))] 80 (0,0))):=⟨eW BK116⟩
 replace HB:Aside0 (Below w.heap.size w ((w13.setCell ⟨gb116,0,none⟩ (.int .i64 (wrap64 (t110-2)))).setCell ⟨gb116,1,none⟩ (.int .i64 (wrap64 (t113-2))))):=⟨cM HB (aJ HI104.out)⟩
 replace HI104:Aside0 (aX w ((w13.setCell ⟨gb116,0,none⟩ (.int .i64 (wrap64 (t110-2)))).setCell ⟨gb116,1,none⟩ (.int .i64 (wrap64 (t113-2)))) g104 t101 t114 t115):=⟨aR HI104⟩
 generalize ((w13.setCell ⟨gb116,0,none⟩ (.int .i64 (wrap64 (t110-2)))).setCell ⟨gb116,1,none⟩ (.int .i64 (wrap64 (t113-2))))=w16 at HO107 BK116 HI104 HB ⊢
 replace HO107:=aD (eQ HO107.out)
 replace BK116:=aD (aK BK116.out)
 replace HI104:=aD (aX.drew HI104.out)
 replace HB:=aD (lC HB.out)
 obtain ⟨Ao18,co18,eo18⟩:=Kd.R_slice HO107.out
 (first|subst eo18|(injection eo18 with f1_ f2_ f3_;have f4_:=f1_.symm;have f5_:=f3_.symm;clear f1_ f2_ f3_;subst f4_;subst f5_))
 have p117:0≤(0:Int):=(by omega)
 have q117:0<(t105.length:Int):=dX
 obtain ⟨ad117,e117,hx117_0,hx117_1⟩:=cC (Kd.R_reads' HO107.out).2.2 0 p117 q117
 cases e117
 have qi117:(0<t105.length)=True:=eq_true (by omega)
 (try rw [show ((0:Int)).toNat=0 from rfl] at hx117_0)
 (try rw [show 0*2=0 from rfl] at hx117_0)
 (try rw [Addr.add_zero'] at hx117_0)
 (try rw [show ((0:Int)).toNat=0 from rfl] at hx117_1)
 (try rw [show 0*2=0 from rfl] at hx117_1)
 (try rw [Addr.add_zero'] at hx117_1)
 replace p117:=eq_true p117
 replace q117:=eq_true q117
 have p118:0≤(1:Int):=(by omega)
 have q118:1<(t105.length:Int):=dX
 obtain ⟨ad118,e118,hx118_0,hx118_1⟩:=cC (Kd.R_reads' HO107.out).2.2 1 p118 q118
 obtain rfl:ad117=ad118:=(by injection e118)
 (try simp only [show (1:Int).toNat=1 from rfl,Nat.reduceMul,Nat.reduceEqDiff,Go.Addr.add,↓reduceIte] at hx118_0)
 (try simp only [show (1:Int).toNat=1 from rfl,Nat.reduceMul,Nat.reduceEqDiff,Go.Addr.add,↓reduceIte] at hx118_1)
 have qi118:(1<t105.length)=True:=eq_true (by omega)
 (try rw [show ((1:Int)).toNat=1 from rfl] at hx118_0)
 (try rw [show 1*2=2 from rfl] at hx118_0)
 (try rw [show ((1:Int)).toNat=1 from rfl] at hx118_1)
 (try rw [show 1*2=2 from rfl] at hx118_1)
 replace p118:=eq_true p118
 replace q118:=eq_true q118
 have p119:0≤(2:Int):=(by omega)
 have q119:2<(t105.length:Int):=dX
 obtain ⟨ad119,e119,hx119_0,hx119_1⟩:=cC (Kd.R_reads' HO107.out).2.2 2 p119 q119
 obtain rfl:ad117=ad119:=(by injection e119)
 (try simp only [show (2:Int).toNat=2 from rfl,Nat.reduceMul,Nat.reduceEqDiff,Go.Addr.add,↓reduceIte] at hx119_0)
 (try simp only [show (2:Int).toNat=2 from rfl,Nat.reduceMul,Nat.reduceEqDiff,Go.Addr.add,↓reduceIte] at hx119_1)
 have qi119:(2<t105.length)=True:=eq_true (by omega)
 (try rw [show ((2:Int)).toNat=2 from rfl] at hx119_0)
 (try rw [show 2*2=4 from rfl] at hx119_0)
 (try rw [show ((2:Int)).toNat=2 from rfl] at hx119_1)
 (try rw [show 2*2=4 from rfl] at hx119_1)
 replace p119:=eq_true p119
 replace q119:=eq_true q119
 refine eE (n:=11) (S:=fun w'=>w'.cell? ad117=some (.int .i64 ((aA t105 0).f0))∧w'.cell? ⟨ad117.block,ad117.off+1,none⟩=some (.int .i64 ((aA t105 0).f1))∧w'.cell? ⟨ad117.block,ad117.off+2,none⟩=some (.int .i64 ((aA t105 1).f0))∧w'.cell? ⟨ad117.block,ad117.off+2+1,none⟩=some (.int .i64 ((aA t105 1).f1))∧w'.cell? ⟨ad117.block,ad117.off+4,none⟩=some (.int .i64 ((aA t105 2).f0))∧w'.cell? ⟨ad117.block,ad117.off+4+1,none⟩=some (.int .i64 ((aA t105 2).f1))) (ds:=[]) (bm 11 0) (by kernel_rfl) rfl rfl ⟨hx117_0,hx117_1,hx118_0,hx118_1,hx119_0,hx119_1⟩ (fun hHeld=>?_);refine cX rI qN (fun HT_ HW_=>?_)
 generalize w16.drew=w17 at HO107 BK116 HI104 HB hx117_0 hx117_1 hx118_0 hx118_1 hx119_0 hx119_1 hHeld ⊢
 refine dG ((0,0,20,1)::(0,1,21,3)::(0,3,23,11)::(0,4,24,27)::(0,6,26,91)::(0,7,27,219)::(2,2,22,223)::(2,5,25,255)::(2,8,28,511)::[]) ?_
 iterate 9 (first|refine jT HT_ ?_|refine qB HT_ HW_ hHeld ?_)
 refine bL ?_
 refine cS (i:=9) (N:=some 29) (bm 11 1023) rfl rfl (bI HT_.out (by kernel_rfl)) (by decide) (fun K hK=>?_)
 refine Kd.R_lit_step gA _ 80 ?hg (N:=29) ?hd (xs:=([(⟨(aA t105 0).f0,(aA t105 0).f1⟩:dB),(⟨(aA t105 1).f0,(aA t105 1).f1⟩:dB),(⟨(aA t105 2).f0,(aA t105 2).f1⟩:dB)]:List (dB))) (inner:=[.int .i64 ((aA t105 0).f0),.int .i64 ((aA t105 0).f1),.int .i64 ((aA t105 1).f0),.int .i64 ((aA t105 1).f1),.int .i64 ((aA t105 2).f0),.int .i64 ((aA t105 2).f1)]) (ok:=fun _=>True) (okp:=fun _=>True) ?hr ?hp (fun _ hk=>hk) trivial (Below.refl _ _) (Nat.le_refl _) (by simp) ?_;(case hd=>rfl);(case hg=>rfl);(case hr=>first|(go_simp;done)|(go_simp;rfl));(case hp=>exact (iK (show Kd.M gA _ _ _ (⟨(aA t105 0).f0,(aA t105 0).f1⟩:dB) [.int .i64 ((aA t105 0).f0),.int .i64 ((aA t105 0).f1)] from (gE _ _ _ (⟨(aA t105 0).f0,(aA t105 0).f1⟩:dB) )) (iK (show Kd.M gA _ _ _ (⟨(aA t105 1).f0,(aA t105 1).f1⟩:dB) [.int .i64 ((aA t105 1).f0),.int .i64 ((aA t105 1).f1)] from (gE _ _ _ (⟨(aA t105 1).f0,(aA t105 1).f1⟩:dB) )) (iK (show Kd.M gA _ _ _ (⟨(aA t105 2).f0,(aA t105 2).f1⟩:dB) [.int .i64 ((aA t105 2).f0),.int .i64 ((aA t105 2).f1)] from (gE _ _ _ (⟨(aA t105 2).f0,(aA t105 2).f1⟩:dB) )) (iE.none _ _)))))
 intro v121 w19 ho20 hb hg_ hnew_
 have HS0_:=cP hb hHeld.1
 have HS1_:=cP hb hHeld.2.1
 have HS2_:=cP hb hHeld.2.2.1
 have HS3_:=cP hb hHeld.2.2.2.1
 have HS4_:=cP hb hHeld.2.2.2.2.1
 have HS5_:=cP hb hHeld.2.2.2.2.2
 clear hg_ hnew_
 (first|rw [← Ny120.out] at ho20|(simp only [Int.reduceToNat] at ho20;rw [← Ny120.out] at ho20))
 have HO122:=aD (Kd.R_lower (Kd.R_newB (Kd.R_new' ho20 (Kd.R_lt (bN HO107))) (g:=gb116) (o:=.cells #[.int .i64 (wrap64 (t110-2)),.int .i64 (wrap64 (t113-2))] 80 (0,0)) (cF BK116)) (aM (cM HB (aJ HI104.out))))
 replace HO107:=aD (Kd.R_elder' (bN HO107) (Kd.R_base ho20) hb)
 replace BK116:=aD (aU BK116 hb)
 replace HB:=aD (aE (cM HB (aJ HI104.out)) hb)
 replace HI104:=aD (aX.below (aR HI104) hb)
 clear hb ho20
 refine hK.out _ _ ⟨HS0_,HS1_,HS2_,HS3_,HS4_,HS5_⟩ (fun hHeld=>?_)
 clear hK K
 refine cW (some 29) ?_
 refine dG ((0,10,6,2047)::[]) ?_
 iterate 1 (first|refine jT HT_ ?_)
 refine bL ?_
 refine dD (dZ HT_.out (by kernel_rfl)) ?_
 try go_wp2
 go_loopg [6,7] k (fun kq v6 v7 w'=>∃ (x6_1:List (dB)) (x7_1:Int) (x105001_1:Int) (x105002_1:Int),v7=.int .i64 x7_1∧Aside0 (dW kq t105 x6_1 x7_1 t101 x105001_1 x105002_1 (wrap64 (t110-2)) (wrap64 (t113-2))=some r)∧Aside0 (kq≤k)∧Aside0 (Kd.R gA 80 w' w.heap.size (fun k_=>some k_≠(v6:Value).ownBlock∧k_≠gb116) (.slice (some ad117) t105.length co18) t105)∧Aside0 (Kd.R gA 80 w' w.heap.size (fun k_=>some k_≠((.slice (some ad117) t105.length co18):Value).ownBlock∧k_≠gb116) v6 x6_1)∧Aside0 (w'.heap[gb116]? = some (.cells #[.int .i64 (wrap64 (t110-2)),.int .i64 (wrap64 (t113-2))] 80 (0,0)))∧Aside0 (aX w w' g104 t101 x105001_1 x105002_1)∧Aside0 (Below w.heap.size w w'))
 case atStart=>exact ⟨(y120),(0),(t114),(t115),eO,H',⟨Nat.le_refl _⟩,⟨by (with_reducible repeat (first|apply fK|apply gF|apply eQ));exact Kd.R_mono HO107.out (fun _ hk=>⟨hk.2,hk.1⟩)⟩,⟨by (with_reducible repeat (first|apply fK|apply gF|apply eQ));exact Kd.R_mono HO122.out (fun _ hk=>⟨hk.1.2,hk.2⟩)⟩,⟨cF BK116⟩,⟨aR HI104⟩,⟨cM HB (aJ HI104.out)⟩⟩
 case round =>
  clear H'
  try clear c2
  try clear c6
  try clear c6b0
  try clear c6b1
  try clear c7
  try clear c7b0
  try clear c7b1
  try clear c8
  try clear c8b0
  try clear c8b1
  try clear hcz15_0
  try clear hcz15_1
  try clear hfz15_0
  try clear hfz15_1
  try clear hx117_0
  try clear hx117_1
  try clear hx118_0
  try clear hx118_1
  try clear hx119_0
  try clear hx119_1
  try clear p117
  try clear p118
  try clear p119
  try clear q117
  try clear q118
  try clear q119
  obtain ⟨x6_1,x7_1,x105001_1,x105002_1,rfl,HA,HK1,HO_4,HO_6,BK116,HI104,HB⟩:=hrel
  cases gk with
  | zero=>exact absurd HA.out (by simp [dW])
  | succ k1 =>
   have H:=HA.out
   clear HA
   simp only [dW] at H
   rcases mJ H with ⟨c21b0,H⟩|⟨c21b0,H⟩
   ·obtain ⟨c22b0,H⟩:=jU H
    obtain ⟨c23b0,H⟩:=jU H
    obtain ⟨y124,hy124⟩:∃ y_:List Int,y_=(([2,(-1),3,(-2)]:List Int)):=⟨_,rfl⟩
    first|(with_reducible replace H:=uU hy124 H)|(with_reducible replace H:=uV hy124 H)|rw [← hy124] at H
    have Ny124:=aD hy124
    clear hy124
    replace H:=fQ H
    obtain ⟨⟨t127,t128,t129⟩,A24,H⟩:=H
    try dsimp only at H
    replace H:=fQ H
    obtain ⟨⟨t130,t131⟩,A25,H⟩:=H
    try dsimp only at H
    replace H:=fQ H
    obtain ⟨⟨t133,t134,t135⟩,A26,H⟩:=H
    try dsimp only at H
    by_cases c27:t133=true
    ·subst c27
     rw [if_pos rfl] at H
     obtain ⟨c28,H⟩:=iC H
     have LMc28:=aD c28
     clear c28
     obtain ⟨y136,hy136⟩:∃ y_:List (dB),y_=(x6_1++[(⟨wrap64 (t130+1),t131⟩:dB)]):=⟨_,rfl⟩
     first|(with_reducible replace H:=uU hy136 H)|(with_reducible replace H:=uV hy136 H)|rw [← hy136] at H
     have Ny136:=aD hy136
     clear hy136
     have H':=aD H
     clear H
     try go_wp2
     replace HO_4:=aD (eQ HO_4.out)
     replace HO_6:=aD (eQ HO_6.out)
     replace BK116:=aD (aK BK116.out)
     replace HI104:=aD (aX.drew HI104.out)
     replace HB:=aD (lC HB.out)
     obtain ⟨p123,q123,ad123,e123,hx123_0,hx123_1⟩:=wC (cC (Kd.R_reads' HO_4.out).2.2 x7_1)
     obtain rfl:ad117=ad123:=(by injection e123)
     refine eE (n:=11) (S:=fun w'=>w'.cell? ⟨gb116,0,none⟩=some (.int .i64 (wrap64 (t110-2)))∧w'.cell? ⟨gb116,1,none⟩=some (.int .i64 (wrap64 (t113-2)))∧w'.cell? (ad117.add ((x7_1).toNat*2))=some (.int .i64 ((aA t105 x7_1).f0))∧w'.cell? ⟨(ad117.add ((x7_1).toNat*2)).block,(ad117.add ((x7_1).toNat*2)).off+1,none⟩=some (.int .i64 ((aA t105 x7_1).f1))) (ds:=[]) (bm 11 0) (by kernel_rfl) rfl rfl ⟨aT BK116 0,aT BK116 1,hx123_0,hx123_1⟩ (fun hHeld=>?_);refine cX lP kY (fun HT_ HW_=>?_)
     generalize wr.drew=w29 at HO_4 HO_6 BK116 HI104 HB hx123_0 hx123_1 hHeld ⊢
     refine dG ((0,1,35,2)::(0,2,36,6)::(0,3,37,14)::(0,5,39,46)::(2,0,34,47)::(2,4,38,63)::[]) ?_
     iterate 6 (first|refine jT HT_ ?_|refine qB HT_ HW_ hHeld ?_)
     refine bL ?_
     refine sO (σ:=Value×Nat) 1 (bm 11 1023) (fun s_=>[(40,s_.1),(41,.int .i64 t127),(42,.agg #[.int .i64 t130,.int .i64 t131]),(8,.pointer (some ⟨s_.2,0,none⟩))]) (fun s_ w'=>(w'.cell? ⟨gb116,0,none⟩=some (.int .i64 (wrap64 (t110-2)))∧w'.cell? ⟨gb116,1,none⟩=some (.int .i64 (wrap64 (t113-2)))∧w'.cell? (ad117.add ((x7_1).toNat*2))=some (.int .i64 ((aA t105 x7_1).f0))∧w'.cell? ⟨(ad117.add ((x7_1).toNat*2)).block,(ad117.add ((x7_1).toNat*2)).off+1,none⟩=some (.int .i64 ((aA t105 x7_1).f1)))∧(Kd.R gA 80 w' w.heap.size (fun k_=>some k_≠(u6:Value).ownBlock∧k_≠gb116∧k_≠s_.2) (.slice (some ad117) t105.length co18) t105)∧(Kd.R gA 80 w' w.heap.size (fun k_=>some k_≠(.slice (some ad117) t105.length co18:Value).ownBlock∧k_≠gb116∧k_≠s_.2) u6 x6_1)∧(w'.heap[gb116]? = some (.cells #[.int .i64 (wrap64 (t110-2)),.int .i64 (wrap64 (t113-2))] 80 (0,0)))∧(w'.heap[s_.2]? = some (.cells #[.int .i64 0,.int .i64 0] 80 (0,0)))∧(w.heap.size≤s_.2)∧(w.heap.size≤s_.2)∧(g104≠s_.2)∧(s_.2≠g104)∧(gb116≠s_.2)∧(s_.2≠gb116)∧(aX w w' g104 t101 t128 t129)∧(Below w.heap.size w w')) ?_ ?_
     rotate_left
     ·intro hCont
      refine mF (i:=6) (j:=9) (Ni:=some 40) (Nj:=some 8) (bm 11 127) (bm 11 575) rfl rfl rfl rfl (gV HT_.out (by kernel_rfl)) (by decide) (by decide) (fun K hK=>?_) (fun K hK=>?_)
      ·skip
       refine Kd.R_lit_step (Kd.int .i64) _ 3 ?hg (N:=40) ?hd (xs:=([2,(-1),3,(-2)]:List Int)) (inner:=[.int .i64 2,.int .i64 (-1),.int .i64 3,.int .i64 (-2)]) (ok:=fun _=>True) (okp:=fun _=>True) ?hr ?hp (fun _ hk=>hk) trivial (Below.refl _ _) (Nat.le_refl _) (by simp) ?_;(case hd=>rfl);(case hg=>rfl);(case hr=>first|(go_simp;done)|(go_simp;rfl));(case hp=>exact (dF (show Kd.M (Kd.int .i64) _ _ _ 2 [.int .i64 2] from rfl) (dF (show Kd.M (Kd.int .i64) _ _ _ (-1) [.int .i64 (-1)] from rfl) (dF (show Kd.M (Kd.int .i64) _ _ _ 3 [.int .i64 3] from rfl) (dF (show Kd.M (Kd.int .i64) _ _ _ (-2) [.int .i64 (-2)] from rfl) (iE.none _ _))))))
       intro v125 w30 ho31 hb hg_ hnew_
       have HS2_:=cP hb hHeld.2.2.1
       have HS3_:=cP hb hHeld.2.2.2
       clear hg_ hnew_
       (first|rw [← Ny124.out] at ho31|(simp only [Int.reduceToNat] at ho31;rw [← Ny124.out] at ho31))
       replace HO_4:=aD (Kd.R_below (bN HO_4) hb)
       replace HO_6:=aD (Kd.R_below (bN HO_6) hb)
       have HO126:=aD (Kd.R_lower ho31 (aM (cM HB (aJ HI104.out))))
       replace BK116:=aD (aU BK116 hb)
       replace HB:=aD (aE (cM HB (aJ HI104.out)) hb)
       replace HI104:=aD (aX.below (aR HI104) hb)
       clear hb ho31
       obtain ⟨Ao32,co32,eo32⟩:=Kd.R_slice HO126.out
       (first|subst eo32|(injection eo32 with f1_ f2_ f3_;have f4_:=f1_.symm;have f5_:=f3_.symm;clear f1_ f2_ f3_;subst f4_;subst f5_))
       refine hK.out _ _ ⟨aT BK116 0,aT BK116 1,HS2_,HS3_⟩ (fun hHeld=>?_)
       clear hK K
       refine cW (some 40) ?_
       refine mF (i:=7) (j:=9) (Ni:=some 41) (Nj:=some 8) (bm 11 255) (bm 11 639) rfl rfl rfl rfl (gV HT_.out (by kernel_rfl)) (by decide) (by decide) (fun K hK=>?_) (fun K hK=>?_)
       ·skip
        refine bP Try.func108 #[.pointer (some ⟨g104,0,none⟩),.slice Ao32 y124.length co32] ?_
        with_reducible refine (dR g104 t101 x105001_1 x105002_1 _ _ y124 t127 t128 t129 w _ ?side1 ?side2 ?side3 ?side4 ?side5 A24.out).mono ?_
        (case side1=>exact aR HI104)
        (case side2=>exact cM HB (aJ HI104.out))
        (case side3=>exact nK (Kd.R_reads' HO126.out).2.2)
        (case side4=>exact (Kd.R_reads' HO126.out).2.1)
        (case side5=>exact iZ (aY HI104.out HO126.out (by decide)))
        rintro e w33 ⟨rfl,hi,hb,hk⟩
        have HS2_:=gC hk (hHeld.2.2.1) (by first|(rw [cA];exact Kd.own_blk (aY HI104.out HO_4.out (by decide)))|(show (Addr.add _ _).block≠_;rw [cA];exact Kd.own_blk (aY HI104.out HO_4.out (by decide)))|exact Kd.own_blk (aY HI104.out HO_4.out (by decide)))
        have HS3_:=gC hk (hHeld.2.2.2) (by first|(rw [cA];exact Kd.own_blk (aY HI104.out HO_4.out (by decide)))|(show (Addr.add _ _).block≠_;rw [cA];exact Kd.own_blk (aY HI104.out HO_4.out (by decide)))|exact Kd.own_blk (aY HI104.out HO_4.out (by decide)))
        refine ⟨_,rfl,?_⟩
        replace HO_4:=aD (Kd.R_mono (Kd.R_keep (aX.apart (show aX w _ g104 t101 x105001_1 x105002_1 from aR HI104) (bN HO_4) (by decide)) hk (fun _ h=>h.2)) (fun _ h=>h.1))
        replace HO_6:=aD (Kd.R_mono (Kd.R_keep (aX.apart (show aX w _ g104 t101 x105001_1 x105002_1 from aR HI104) (bN HO_6) (by decide)) hk (fun _ h=>h.2)) (fun _ h=>h.1))
        replace BK116:=aD (dO.blk hk (g':=gb116) (o:=.cells #[.int .i64 (wrap64 (t110-2)),.int .i64 (wrap64 (t113-2))] 80 (0,0)) (cF BK116) NB116_104.out (by simp))
        replace HB:=aD (hb)
        replace HI104:=aD (hi)
        (try clear hb)
        (try clear hb2)
        (try clear hk)
        (try clear hi)
        refine hK.out _ _ ⟨aT BK116 0,aT BK116 1,HS2_,HS3_⟩ (fun hHeld=>?_)
        clear hK K
        refine cW (some 41) ?_
        refine mF (i:=8) (j:=9) (Ni:=some 42) (Nj:=some 8) (bm 11 511) (bm 11 767) rfl rfl rfl rfl (gV HT_.out (by kernel_rfl)) (by decide) (by decide) (fun K hK=>?_) (fun K hK=>?_)
        ·skip
         refine bP Try.func138 #[.agg #[.int .i64 (wrap64 (t110-2)),.int .i64 (wrap64 (t113-2))],.agg #[.int .i64 ((aA t105 x7_1).f0),.int .i64 ((aA t105 x7_1).f1)],.int .i64 t127] ?_
         with_reducible refine (dP (wrap64 (t110-2)) (wrap64 (t113-2)) ((aA t105 x7_1).f0) ((aA t105 x7_1).f1) t127 t130 t131 _ A25.out).mono ?_
         rintro e w34 ⟨rfl,hb⟩
         have HS2_:=cP hb hHeld.2.2.1
         have HS3_:=cP hb hHeld.2.2.2
         refine ⟨_,rfl,?_⟩
         replace HO_4:=aD (Kd.R_below (bN HO_4) hb)
         replace HO_6:=aD (Kd.R_below (bN HO_6) hb)
         replace BK116:=aD (aU BK116 hb)
         replace HB:=aD (aE (cM HB (aJ HI104.out)) hb)
         replace HI104:=aD (aX.below (aR HI104) hb)
         (try clear hb)
         (try clear hb2)
         (try clear hk)
         (try clear hi)
         refine hK.out _ _ ⟨aT BK116 0,aT BK116 1,HS2_,HS3_⟩ (fun hHeld=>?_)
         clear hK K
         refine cW (some 42) ?_
         refine cS (i:=9) (N:=some 8) (bm 11 1023) rfl rfl (bI HT_.out (by kernel_rfl)) (by decide) (fun K hK=>?_)
         refine dQ ?hg (N:=8) ?hd (cs:=#[.int .i64 0,.int .i64 0]) (t:=80) ?hr ?_;(case hd=>rfl);(case hg=>rfl);(case hr=>first|(go_simp;done)|(go_simp;rfl))
         intro gb132 hg w35 hbox hb
         have HS2_:=cP hb hHeld.2.2.1
         have HS3_:=cP hb hHeld.2.2.2
         replace HO_4:=aD (Kd.R_below (Kd.R_elderB (bN HO_4) gb132 (Nat.le_of_eq hg.symm)) hb)
         replace HO_6:=aD (Kd.R_below (Kd.R_elderB (bN HO_6) gb132 (Nat.le_of_eq hg.symm)) hb)
         have BK132:=aD (hbox)
         have GW132:=aD ((by rw [hg];exact (aM (cM HB (aJ HI104.out))):w.heap.size≤gb132))
         have GE132:=aD ((by rw [hg];exact (aM (cM HB (aJ HI104.out))):w.heap.size≤gb132))
         replace HB:=aD (aE (cM HB (aJ HI104.out)) hb)
         have NB116_132:=aD ((bW BK116 hg))
         have NB132_116:=aD ((bX BK116 hg))
         replace BK116:=aD (aU BK116 hb)
         have NB104_132:=aD ((by rw [hg];exact Nat.ne_of_lt (bF (show aX w _ g104 t101 t128 t129 from aR HI104)):g104≠gb132))
         have NB132_104:=aD ((by rw [hg];exact Nat.ne_of_gt (bF (show aX w _ g104 t101 t128 t129 from aR HI104)):gb132≠g104))
         replace HI104:=aD (aX.below (aR HI104) hb)
         clear hb hbox hg
         refine hK.out _ _ ⟨aT BK116 0,aT BK116 1,HS2_,HS3_⟩ (fun hHeld=>?_)
         clear hK K
         refine cW (some 8) ?_
         exact fP (by simp only [eC,Act.put,List.setIfInBounds_toArray,List.set_cons_zero,List.set_cons_succ]) (hCont (.slice Ao32 y124.length co32,gb132) _ ⟨hHeld,(by (with_reducible repeat (first|apply fK|apply gF|apply eQ));exact Kd.R_mono HO_4.out (fun _ hk=>⟨hk.1.1,⟨hk.1.2,hk.2⟩⟩)),(by (with_reducible repeat (first|apply fK|apply gF|apply eQ));exact Kd.R_mono HO_6.out (fun _ hk=>⟨hk.1.1,⟨hk.1.2,hk.2⟩⟩)),(cF BK116),(cF BK132),GW132.out,GE132.out,NB104_132.out,NB132_104.out,NB116_132.out,NB132_116.out,(aR HI104),(cM HB (aJ HI104.out))⟩)
        ·skip
         refine dQ ?hg (N:=8) ?hd (cs:=#[.int .i64 0,.int .i64 0]) (t:=80) ?hr ?_;(case hd=>rfl);(case hg=>rfl);(case hr=>first|(go_simp;done)|(go_simp;rfl))
         intro gb132 hg w34 hbox hb
         have HS2_:=cP hb hHeld.2.2.1
         have HS3_:=cP hb hHeld.2.2.2
         replace HO_4:=aD (Kd.R_below (Kd.R_elderB (bN HO_4) gb132 (Nat.le_of_eq hg.symm)) hb)
         replace HO_6:=aD (Kd.R_below (Kd.R_elderB (bN HO_6) gb132 (Nat.le_of_eq hg.symm)) hb)
         have BK132:=aD (hbox)
         have GW132:=aD ((by rw [hg];exact (aM (cM HB (aJ HI104.out))):w.heap.size≤gb132))
         have GE132:=aD ((by rw [hg];exact (aM (cM HB (aJ HI104.out))):w.heap.size≤gb132))
         replace HB:=aD (aE (cM HB (aJ HI104.out)) hb)
         have NB116_132:=aD ((bW BK116 hg))
         have NB132_116:=aD ((bX BK116 hg))
         replace BK116:=aD (aU BK116 hb)
         have NB104_132:=aD ((by rw [hg];exact Nat.ne_of_lt (bF (show aX w _ g104 t101 t128 t129 from aR HI104)):g104≠gb132))
         have NB132_104:=aD ((by rw [hg];exact Nat.ne_of_gt (bF (show aX w _ g104 t101 t128 t129 from aR HI104)):gb132≠g104))
         replace HI104:=aD (aX.below (aR HI104) hb)
         clear hb hbox hg
         refine hK.out _ _ ⟨aT BK116 0,aT BK116 1,HS2_,HS3_⟩ (fun hHeld=>?_)
         clear hK K
         refine cW (some 8) ?_
         refine cS (i:=8) (N:=some 42) (bm 11 1023) rfl rfl (bI HT_.out (by kernel_rfl)) (by decide) (fun K hK=>?_)
         refine bP Try.func138 #[.agg #[.int .i64 (wrap64 (t110-2)),.int .i64 (wrap64 (t113-2))],.agg #[.int .i64 ((aA t105 x7_1).f0),.int .i64 ((aA t105 x7_1).f1)],.int .i64 t127] ?_
         with_reducible refine (dP (wrap64 (t110-2)) (wrap64 (t113-2)) ((aA t105 x7_1).f0) ((aA t105 x7_1).f1) t127 t130 t131 _ A25.out).mono ?_
         rintro e w35 ⟨rfl,hb⟩
         have HS2_:=cP hb hHeld.2.2.1
         have HS3_:=cP hb hHeld.2.2.2
         refine ⟨_,rfl,?_⟩
         replace HO_4:=aD (Kd.R_below (bN HO_4) hb)
         replace HO_6:=aD (Kd.R_below (bN HO_6) hb)
         replace BK116:=aD (aU BK116 hb)
         replace BK132:=aD (aU BK132 hb)
         replace HB:=aD (aE (cM HB (aJ HI104.out)) hb)
         replace HI104:=aD (aX.below (aR HI104) hb)
         (try clear hb)
         (try clear hb2)
         (try clear hk)
         (try clear hi)
         refine hK.out _ _ ⟨aT BK116 0,aT BK116 1,HS2_,HS3_⟩ (fun hHeld=>?_)
         clear hK K
         refine cW (some 42) ?_
         exact fP (by simp only [eC,Act.put,List.setIfInBounds_toArray,List.set_cons_zero,List.set_cons_succ]) (hCont (.slice Ao32 y124.length co32,gb132) _ ⟨hHeld,(by (with_reducible repeat (first|apply fK|apply gF|apply eQ));exact Kd.R_mono HO_4.out (fun _ hk=>⟨hk.1.1,⟨hk.1.2,hk.2⟩⟩)),(by (with_reducible repeat (first|apply fK|apply gF|apply eQ));exact Kd.R_mono HO_6.out (fun _ hk=>⟨hk.1.1,⟨hk.1.2,hk.2⟩⟩)),(cF BK116),(cF BK132),GW132.out,GE132.out,NB104_132.out,NB132_104.out,NB116_132.out,NB132_116.out,(aR HI104),(cM HB (aJ HI104.out))⟩)
       ·skip
        refine dQ ?hg (N:=8) ?hd (cs:=#[.int .i64 0,.int .i64 0]) (t:=80) ?hr ?_;(case hd=>rfl);(case hg=>rfl);(case hr=>first|(go_simp;done)|(go_simp;rfl))
        intro gb132 hg w32 hbox hb
        have HS2_:=cP hb hHeld.2.2.1
        have HS3_:=cP hb hHeld.2.2.2
        replace HO_4:=aD (Kd.R_below (Kd.R_elderB (bN HO_4) gb132 (Nat.le_of_eq hg.symm)) hb)
        replace HO_6:=aD (Kd.R_below (Kd.R_elderB (bN HO_6) gb132 (Nat.le_of_eq hg.symm)) hb)
        replace HO126:=aD (Kd.R_below (bN HO126) hb)
        have BK132:=aD (hbox)
        have GW132:=aD ((by rw [hg];exact (aM (cM HB (aJ HI104.out))):w.heap.size≤gb132))
        have GE132:=aD ((by rw [hg];exact (aM (cM HB (aJ HI104.out))):w.heap.size≤gb132))
        replace HB:=aD (aE (cM HB (aJ HI104.out)) hb)
        have NB116_132:=aD ((bW BK116 hg))
        have NB132_116:=aD ((bX BK116 hg))
        replace BK116:=aD (aU BK116 hb)
        have NB104_132:=aD ((by rw [hg];exact Nat.ne_of_lt (bF (show aX w _ g104 t101 x105001_1 x105002_1 from aR HI104)):g104≠gb132))
        have NB132_104:=aD ((by rw [hg];exact Nat.ne_of_gt (bF (show aX w _ g104 t101 x105001_1 x105002_1 from aR HI104)):gb132≠g104))
        replace HI104:=aD (aX.below (aR HI104) hb)
        clear hb hbox hg
        obtain ⟨Ao33,co33,eo33⟩:=Kd.R_slice HO126.out
        (first|subst eo33|(injection eo33 with f1_ f2_ f3_;have f4_:=f1_.symm;have f5_:=f3_.symm;clear f1_ f2_ f3_;subst f4_;subst f5_))
        refine hK.out _ _ ⟨aT BK116 0,aT BK116 1,HS2_,HS3_⟩ (fun hHeld=>?_)
        clear hK K
        refine cW (some 8) ?_
        refine cS (i:=7) (N:=some 41) (bm 11 767) rfl rfl (bI HT_.out (by kernel_rfl)) (by decide) (fun K hK=>?_)
        refine bP Try.func108 #[.pointer (some ⟨g104,0,none⟩),.slice Ao33 y124.length co33] ?_
        with_reducible refine (dR g104 t101 x105001_1 x105002_1 _ _ y124 t127 t128 t129 w _ ?side1 ?side2 ?side3 ?side4 ?side5 A24.out).mono ?_
        (case side1=>exact aR HI104)
        (case side2=>exact cM HB (aJ HI104.out))
        (case side3=>exact nK (Kd.R_reads' HO126.out).2.2)
        (case side4=>exact (Kd.R_reads' HO126.out).2.1)
        (case side5=>exact iZ (aY HI104.out HO126.out (by decide)))
        rintro e w34 ⟨rfl,hi,hb,hk⟩
        have HS2_:=gC hk (hHeld.2.2.1) (by first|(rw [cA];exact Kd.own_blk (aY HI104.out HO_4.out (by decide)))|(show (Addr.add _ _).block≠_;rw [cA];exact Kd.own_blk (aY HI104.out HO_4.out (by decide)))|exact Kd.own_blk (aY HI104.out HO_4.out (by decide)))
        have HS3_:=gC hk (hHeld.2.2.2) (by first|(rw [cA];exact Kd.own_blk (aY HI104.out HO_4.out (by decide)))|(show (Addr.add _ _).block≠_;rw [cA];exact Kd.own_blk (aY HI104.out HO_4.out (by decide)))|exact Kd.own_blk (aY HI104.out HO_4.out (by decide)))
        refine ⟨_,rfl,?_⟩
        replace HO_4:=aD (Kd.R_mono (Kd.R_keep (aX.apart (show aX w _ g104 t101 x105001_1 x105002_1 from aR HI104) (bN HO_4) (by decide)) hk (fun _ h=>h.2)) (fun _ h=>h.1))
        replace HO_6:=aD (Kd.R_mono (Kd.R_keep (aX.apart (show aX w _ g104 t101 x105001_1 x105002_1 from aR HI104) (bN HO_6) (by decide)) hk (fun _ h=>h.2)) (fun _ h=>h.1))
        replace BK116:=aD (dO.blk hk (g':=gb116) (o:=.cells #[.int .i64 (wrap64 (t110-2)),.int .i64 (wrap64 (t113-2))] 80 (0,0)) (cF BK116) NB116_104.out (by simp))
        replace BK132:=aD (dO.blk hk (g':=gb132) (o:=.cells #[.int .i64 0,.int .i64 0] 80 (0,0)) (cF BK132) NB132_104.out (by simp))
        replace HB:=aD (hb)
        replace HI104:=aD (hi)
        (try clear hb)
        (try clear hb2)
        (try clear hk)
        (try clear hi)
        refine hK.out _ _ ⟨aT BK116 0,aT BK116 1,HS2_,HS3_⟩ (fun hHeld=>?_)
        clear hK K
        refine cW (some 41) ?_
        refine cS (i:=8) (N:=some 42) (bm 11 1023) rfl rfl (bI HT_.out (by kernel_rfl)) (by decide) (fun K hK=>?_)
        refine bP Try.func138 #[.agg #[.int .i64 (wrap64 (t110-2)),.int .i64 (wrap64 (t113-2))],.agg #[.int .i64 ((aA t105 x7_1).f0),.int .i64 ((aA t105 x7_1).f1)],.int .i64 t127] ?_
        with_reducible refine (dP (wrap64 (t110-2)) (wrap64 (t113-2)) ((aA t105 x7_1).f0) ((aA t105 x7_1).f1) t127 t130 t131 _ A25.out).mono ?_
        rintro e w35 ⟨rfl,hb⟩
        have HS2_:=cP hb hHeld.2.2.1
        have HS3_:=cP hb hHeld.2.2.2
        refine ⟨_,rfl,?_⟩
        replace HO_4:=aD (Kd.R_below (bN HO_4) hb)
        replace HO_6:=aD (Kd.R_below (bN HO_6) hb)
        replace BK116:=aD (aU BK116 hb)
        replace BK132:=aD (aU BK132 hb)
        replace HB:=aD (aE (cM HB (aJ HI104.out)) hb)
        replace HI104:=aD (aX.below (aR HI104) hb)
        (try clear hb)
        (try clear hb2)
        (try clear hk)
        (try clear hi)
        refine hK.out _ _ ⟨aT BK116 0,aT BK116 1,HS2_,HS3_⟩ (fun hHeld=>?_)
        clear hK K
        refine cW (some 42) ?_
        exact fP (by simp only [eC,Act.put,List.setIfInBounds_toArray,List.set_cons_zero,List.set_cons_succ]) (hCont (.slice Ao33 y124.length co33,gb132) _ ⟨hHeld,(by (with_reducible repeat (first|apply fK|apply gF|apply eQ));exact Kd.R_mono HO_4.out (fun _ hk=>⟨hk.1.1,⟨hk.1.2,hk.2⟩⟩)),(by (with_reducible repeat (first|apply fK|apply gF|apply eQ));exact Kd.R_mono HO_6.out (fun _ hk=>⟨hk.1.1,⟨hk.1.2,hk.2⟩⟩)),(cF BK116),(cF BK132),GW132.out,GE132.out,NB104_132.out,NB132_104.out,NB116_132.out,NB132_116.out,(aR HI104),(cM HB (aJ HI104.out))⟩)
      ·skip
       refine dQ ?hg (N:=8) ?hd (cs:=#[.int .i64 0,.int .i64 0]) (t:=80) ?hr ?_;(case hd=>rfl);(case hg=>rfl);(case hr=>first|(go_simp;done)|(go_simp;rfl))
       intro gb132 hg w30 hbox hb
       have HS2_:=cP hb hHeld.2.2.1
       have HS3_:=cP hb hHeld.2.2.2
       replace HO_4:=aD (Kd.R_below (Kd.R_elderB (bN HO_4) gb132 (Nat.le_of_eq hg.symm)) hb)
       replace HO_6:=aD (Kd.R_below (Kd.R_elderB (bN HO_6) gb132 (Nat.le_of_eq hg.symm)) hb)
       have BK132:=aD (hbox)
       have GW132:=aD ((by rw [hg];exact (aM (cM HB (aJ HI104.out))):w.heap.size≤gb132))
       have GE132:=aD ((by rw [hg];exact (aM (cM HB (aJ HI104.out))):w.heap.size≤gb132))
       replace HB:=aD (aE (cM HB (aJ HI104.out)) hb)
       have NB116_132:=aD ((bW BK116 hg))
       have NB132_116:=aD ((bX BK116 hg))
       replace BK116:=aD (aU BK116 hb)
       have NB104_132:=aD ((by rw [hg];exact Nat.ne_of_lt (bF (show aX w _ g104 t101 x105001_1 x105002_1 from aR HI104)):g104≠gb132))
       have NB132_104:=aD ((by rw [hg];exact Nat.ne_of_gt (bF (show aX w _ g104 t101 x105001_1 x105002_1 from aR HI104)):gb132≠g104))
       replace HI104:=aD (aX.below (aR HI104) hb)
       clear hb hbox hg
       refine hK.out _ _ ⟨aT BK116 0,aT BK116 1,HS2_,HS3_⟩ (fun hHeld=>?_)
       clear hK K
       refine cW (some 8) ?_
       refine cS (i:=6) (N:=some 40) (bm 11 639) rfl rfl (bI HT_.out (by kernel_rfl)) (by decide) (fun K hK=>?_)
       refine Kd.R_lit_step (Kd.int .i64) _ 3 ?hg (N:=40) ?hd (xs:=([2,(-1),3,(-2)]:List Int)) (inner:=[.int .i64 2,.int .i64 (-1),.int .i64 3,.int .i64 (-2)]) (ok:=fun _=>True) (okp:=fun _=>True) ?hr ?hp (fun _ hk=>hk) trivial (Below.refl _ _) (Nat.le_refl _) (by simp) ?_;(case hd=>rfl);(case hg=>rfl);(case hr=>first|(go_simp;done)|(go_simp;rfl));(case hp=>exact (dF (show Kd.M (Kd.int .i64) _ _ _ 2 [.int .i64 2] from rfl) (dF (show Kd.M (Kd.int .i64) _ _ _ (-1) [.int .i64 (-1)] from rfl) (dF (show Kd.M (Kd.int .i64) _ _ _ 3 [.int .i64 3] from rfl) (dF (show Kd.M (Kd.int .i64) _ _ _ (-2) [.int .i64 (-2)] from rfl) (iE.none _ _))))))
       intro v125 w31 ho32 hb hg_ hnew_
       have HS2_:=cP hb hHeld.2.2.1
       have HS3_:=cP hb hHeld.2.2.2
       clear hg_ hnew_
       (first|rw [← Ny124.out] at ho32|(simp only [Int.reduceToNat] at ho32;rw [← Ny124.out] at ho32))
       replace HO_4:=aD (Kd.R_below (bN HO_4) hb)
       replace HO_6:=aD (Kd.R_below (bN HO_6) hb)
       have HO126:=aD (Kd.R_lower ho32 (aM (cM HB (aJ HI104.out))))
       replace BK116:=aD (aU BK116 hb)
       replace BK132:=aD (aU BK132 hb)
       replace HB:=aD (aE (cM HB (aJ HI104.out)) hb)
       replace HI104:=aD (aX.below (aR HI104) hb)
       clear hb ho32
       obtain ⟨Ao33,co33,eo33⟩:=Kd.R_slice HO126.out
       (first|subst eo33|(injection eo33 with f1_ f2_ f3_;have f4_:=f1_.symm;have f5_:=f3_.symm;clear f1_ f2_ f3_;subst f4_;subst f5_))
       refine hK.out _ _ ⟨aT BK116 0,aT BK116 1,HS2_,HS3_⟩ (fun hHeld=>?_)
       clear hK K
       refine cW (some 40) ?_
       refine cS (i:=7) (N:=some 41) (bm 11 767) rfl rfl (bI HT_.out (by kernel_rfl)) (by decide) (fun K hK=>?_)
       refine bP Try.func108 #[.pointer (some ⟨g104,0,none⟩),.slice Ao33 y124.length co33] ?_
       with_reducible refine (dR g104 t101 x105001_1 x105002_1 _ _ y124 t127 t128 t129 w _ ?side1 ?side2 ?side3 ?side4 ?side5 A24.out).mono ?_
       (case side1=>exact aR HI104)
       (case side2=>exact cM HB (aJ HI104.out))
       (case side3=>exact nK (Kd.R_reads' HO126.out).2.2)
       (case side4=>exact (Kd.R_reads' HO126.out).2.1)
       (case side5=>exact iZ (aY HI104.out HO126.out (by decide)))
       rintro e w34 ⟨rfl,hi,hb,hk⟩
       have HS2_:=gC hk (hHeld.2.2.1) (by first|(rw [cA];exact Kd.own_blk (aY HI104.out HO_4.out (by decide)))|(show (Addr.add _ _).block≠_;rw [cA];exact Kd.own_blk (aY HI104.out HO_4.out (by decide)))|exact Kd.own_blk (aY HI104.out HO_4.out (by decide)))
       have HS3_:=gC hk (hHeld.2.2.2) (by first|(rw [cA];exact Kd.own_blk (aY HI104.out HO_4.out (by decide)))|(show (Addr.add _ _).block≠_;rw [cA];exact Kd.own_blk (aY HI104.out HO_4.out (by decide)))|exact Kd.own_blk (aY HI104.out HO_4.out (by decide)))
       refine ⟨_,rfl,?_⟩
       replace HO_4:=aD (Kd.R_mono (Kd.R_keep (aX.apart (show aX w _ g104 t101 x105001_1 x105002_1 from aR HI104) (bN HO_4) (by decide)) hk (fun _ h=>h.2)) (fun _ h=>h.1))
       replace HO_6:=aD (Kd.R_mono (Kd.R_keep (aX.apart (show aX w _ g104 t101 x105001_1 x105002_1 from aR HI104) (bN HO_6) (by decide)) hk (fun _ h=>h.2)) (fun _ h=>h.1))
       replace BK116:=aD (dO.blk hk (g':=gb116) (o:=.cells #[.int .i64 (wrap64 (t110-2)),.int .i64 (wrap64 (t113-2))] 80 (0,0)) (cF BK116) NB116_104.out (by simp))
       replace BK132:=aD (dO.blk hk (g':=gb132) (o:=.cells #[.int .i64 0,.int .i64 0] 80 (0,0)) (cF BK132) NB132_104.out (by simp))
       replace HB:=aD (hb)
       replace HI104:=aD (hi)
       (try clear hb)
       (try clear hb2)
       (try clear hk)
       (try clear hi)
       refine hK.out _ _ ⟨aT BK116 0,aT BK116 1,HS2_,HS3_⟩ (fun hHeld=>?_)
       clear hK K
       refine cW (some 41) ?_
       refine cS (i:=8) (N:=some 42) (bm 11 1023) rfl rfl (bI HT_.out (by kernel_rfl)) (by decide) (fun K hK=>?_)
       refine bP Try.func138 #[.agg #[.int .i64 (wrap64 (t110-2)),.int .i64 (wrap64 (t113-2))],.agg #[.int .i64 ((aA t105 x7_1).f0),.int .i64 ((aA t105 x7_1).f1)],.int .i64 t127] ?_
       with_reducible refine (dP (wrap64 (t110-2)) (wrap64 (t113-2)) ((aA t105 x7_1).f0) ((aA t105 x7_1).f1) t127 t130 t131 _ A25.out).mono ?_
       rintro e w35 ⟨rfl,hb⟩
       have HS2_:=cP hb hHeld.2.2.1
       have HS3_:=cP hb hHeld.2.2.2
       refine ⟨_,rfl,?_⟩
       replace HO_4:=aD (Kd.R_below (bN HO_4) hb)
       replace HO_6:=aD (Kd.R_below (bN HO_6) hb)
       replace BK116:=aD (aU BK116 hb)
       replace BK132:=aD (aU BK132 hb)
       replace HB:=aD (aE (cM HB (aJ HI104.out)) hb)
       replace HI104:=aD (aX.below (aR HI104) hb)
       (try clear hb)
       (try clear hb2)
       (try clear hk)
       (try clear hi)
       refine hK.out _ _ ⟨aT BK116 0,aT BK116 1,HS2_,HS3_⟩ (fun hHeld=>?_)
       clear hK K
       refine cW (some 42) ?_
       exact fP (by simp only [eC,Act.put,List.setIfInBounds_toArray,List.set_cons_zero,List.set_cons_succ]) (hCont (.slice Ao33 y124.length co33,gb132) _ ⟨hHeld,(by (with_reducible repeat (first|apply fK|apply gF|apply eQ));exact Kd.R_mono HO_4.out (fun _ hk=>⟨hk.1.1,⟨hk.1.2,hk.2⟩⟩)),(by (with_reducible repeat (first|apply fK|apply gF|apply eQ));exact Kd.R_mono HO_6.out (fun _ hk=>⟨hk.1.1,⟨hk.1.2,hk.2⟩⟩)),(cF BK116),(cF BK132),GW132.out,GE132.out,NB104_132.out,NB132_104.out,NB116_132.out,NB132_116.out,(aR HI104),(cM HB (aJ HI104.out))⟩)
     rintro ⟨v125,gb132⟩ w36 ⟨hS_,h1_,h2_,h3_,h4_,h5_,h6_,h7_,h8_,h9_,h10_,h11_,h12_⟩
     have n1_:Aside0 (Kd.R gA 80 w36 w.heap.size (fun k_=>some k_≠(u6:Value).ownBlock∧k_≠gb116∧k_≠gb132) (.slice (some ad117) t105.length co18) t105):=⟨h1_⟩
     have n2_:Aside0 (Kd.R gA 80 w36 w.heap.size (fun k_=>some k_≠(.slice (some ad117) t105.length co18:Value).ownBlock∧k_≠gb116∧k_≠gb132) u6 x6_1):=⟨h2_⟩
     have n3_:Aside0 (w36.heap[gb116]? = some (.cells #[.int .i64 (wrap64 (t110-2)),.int .i64 (wrap64 (t113-2))] 80 (0,0))):=⟨h3_⟩
     have n4_:Aside0 (w36.heap[gb132]? = some (.cells #[.int .i64 0,.int .i64 0] 80 (0,0))):=⟨h4_⟩
     have n5_:Aside0 (w.heap.size≤gb132):=⟨h5_⟩
     have n6_:Aside0 (w.heap.size≤gb132):=⟨h6_⟩
     have n7_:Aside0 (g104≠gb132):=⟨h7_⟩
     have n8_:Aside0 (gb132≠g104):=⟨h8_⟩
     have n9_:Aside0 (gb116≠gb132):=⟨h9_⟩
     have n10_:Aside0 (gb132≠gb116):=⟨h10_⟩
     have n11_:Aside0 (aX w w36 g104 t101 t128 t129):=⟨h11_⟩
     have n12_:Aside0 (Below w.heap.size w w36):=⟨h12_⟩
     clear HO_4
     clear HO_6
     clear BK116
     clear HI104
     clear HB
     clear h1_ h2_ h3_ h4_ h5_ h6_ h7_ h8_ h9_ h10_ h11_ h12_
     have HO_4:=n1_
     have HO_6:=n2_
     have BK116:=n3_
     have BK132:=n4_
     have GW132:=n5_
     have GE132:=n6_
     have NB104_132:=n7_
     have NB132_104:=n8_
     have NB116_132:=n9_
     have NB132_116:=n10_
     have HI104:=n11_
     have HB:=n12_
     clear n1_ n2_ n3_ n4_ n5_ n6_ n7_ n8_ n9_ n10_ n11_ n12_
     have hHeld:w36.cell? ⟨gb116,0,none⟩=some (.int .i64 (wrap64 (t110-2)))∧w36.cell? ⟨gb116,1,none⟩=some (.int .i64 (wrap64 (t113-2)))∧w36.cell? (ad117.add ((x7_1).toNat*2))=some (.int .i64 ((aA t105 x7_1).f0))∧w36.cell? ⟨(ad117.add ((x7_1).toNat*2)).block,(ad117.add ((x7_1).toNat*2)).off+1,none⟩=some (.int .i64 ((aA t105 x7_1).f1)):=hS_
     refine fP (a':=?_) ?_ ?_
     rotate_left
     ·simp only [eC,Act.put,List.setIfInBounds_toArray,List.set_cons_zero,List.set_cons_succ]
      rfl
     refine cS (i:=10) (N:=none) (bm 11 2047) rfl rfl (bI HT_.out (by kernel_rfl)) (by decide) (fun K hK=>?_)
     have hs37:w36.cell? ⟨gb132,0,none⟩=some (.int .i64 0):=aT BK132 0
     have hfs37:=aC BK132.out 0
     have hns37_0:=NB116_132.out
     have hms37_0:=NB132_116.out
     have hs38:w36.cell? ⟨gb132,1,none⟩=some (.int .i64 0):=aT BK132 1
     have hfs38:=aC BK132.out 1
     have hns38_0:=NB116_132.out
     have hms38_0:=NB132_116.out
     refine fW (w1:=?_) (by rfl) rfl ?_ ?_
     rotate_left
     ·go_simp
      rfl
     refine hK.out _ _ ⟨(cU NB116_132 ((cU NB116_132 hHeld.1))),(cU NB116_132 ((cU NB116_132 hHeld.2.1))),(dT (Kd.own_blk (Kd.R_away HO_4.out (fun _ hk=>hk.2.2))) ((dT (Kd.own_blk (Kd.R_away HO_4.out (fun _ hk=>hk.2.2))) hHeld.2.2.1))),(dT (Kd.own_blk (Kd.R_away HO_4.out (fun _ hk=>hk.2.2))) ((dT (Kd.own_blk (Kd.R_away HO_4.out (fun _ hk=>hk.2.2))) hHeld.2.2.2)))⟩ (fun hHeld=>?_)
     clear hK K
     refine dD (dZ HT_.out (by kernel_rfl)) ?_
     try go_wp2_with (first|((with_reducible refine aV (f:=107) rfl ?_);refine bK (some 44) Try.func107 #[.pointer (some ⟨g104,0,none⟩),.int .i64 8] ?_;(with_reducible refine (cI g104 t101 t128 t129 8 true t134 t135 w _ ?side1 ?side2 A26.out).mono ?_);(case side1=>exact aR HI104);(case side2=>exact cM HB (aJ HI104.out));rintro e w39 ⟨rfl,hi,hb,hk⟩;refine ⟨_,rfl,?_⟩;replace HO_4:=aD (Kd.R_mono (Kd.R_keep (aX.apart (show aX w _ g104 t101 t128 t129 from aR HI104) (by (with_reducible repeat (first|apply fK|apply gF|apply eQ));exact (Kd.R_mono (Kd.R_far (p:=⟨gb132,1,none⟩) (Kd.R_far (p:=⟨gb132,0,none⟩) (Kd.R_mono HO_4.out (fun k_ hk=>(⟨hk,hk.2.2⟩:_∧k_≠gb132))) (fun _ hk=>hk.2) (.int .i64 t130)) (fun _ hk=>hk.2) (.int .i64 t131)) (fun _ h_=>h_.1))) (by decide)) hk (fun _ h=>h.2)) (fun _ h=>h.1));replace HO_6:=aD (Kd.R_mono (Kd.R_keep (aX.apart (show aX w _ g104 t101 t128 t129 from aR HI104) (by (with_reducible repeat (first|apply fK|apply gF|apply eQ));exact (Kd.R_mono (Kd.R_far (p:=⟨gb132,1,none⟩) (Kd.R_far (p:=⟨gb132,0,none⟩) (Kd.R_mono HO_6.out (fun k_ hk=>(⟨hk,hk.2.2⟩:_∧k_≠gb132))) (fun _ hk=>hk.2) (.int .i64 t130)) (fun _ hk=>hk.2) (.int .i64 t131)) (fun _ h_=>h_.1))) (by decide)) hk (fun _ h=>h.2)) (fun _ h=>h.1));replace BK116:=aD (dO.blk hk (g':=gb116) (o:=.cells #[.int .i64 (wrap64 (t110-2)),.int .i64 (wrap64 (t113-2))] 80 (0,0)) (eW BK116) NB116_104.out (by simp));replace BK132:=aD (dO.blk hk (g':=gb132) (o:=.cells #[.int .i64 t130,.int .i64 t131] 80 (0,0)) (eW BK132) NB132_104.out (by simp));replace HB:=aD (hb);replace HI104:=aD (hi);(try clear hb);(try clear hb2);(try clear hk);(try clear hi);have hnb40:=NB132_116.out;have hnc40:=NB116_132.out;have hnb41:=NB132_104.out;have hnc41:=NB104_132.out;have hcz42_0:=aT BK132 0;have hcz42_1:=aT BK132 1;have hfz42_0:=aC BK132.out 0;have hfz42_1:=aC BK132.out 1)|((with_reducible refine fL (b:=.append) (xs:=#[.tmp 49,.tmp 51]) rfl ?_);at_builtin;refine Kd.R_append gA (w0:=w) w.heap.size rfl (.tmp 49) (.tmp 51) 61 80 (.agg #[(.int .i64 0),(.int .i64 0)]) 16 rfl Try.underlying61 qA rfl (by decide) (by omega) u6 x6_1 (⟨wrap64 (t130+1),t131⟩:dB) [.int .i64 (wrap64 (t130+1)),.int .i64 t131] (fun k_=>some k_≠(.slice (some ad117) t105.length co18:Value).ownBlock∧k_≠gb116∧k_≠gb132) (fun _=>False) rfl (by first|(go_simp;done)|(go_simp;rfl)) ?aP (fun _ hk=>hk.elim) ?aF ?aO ?aB ?aS ?aL ?_;(case aP=>exact gE _ _ _ (⟨wrap64 (t130+1),t131⟩:dB));(case aB=>exact (cM HB (aJ HI104.out)));(case aF=>exact (fun k_ hk=>⟨Kd.fresh' (Kd.R_lt (by (with_reducible repeat (first|apply fK|apply gF|apply eQ));exact (Kd.R_mono (Kd.R_far (p:=⟨gb132,0,none⟩) (Kd.R_mono HO_4.out (fun k_ hk=>(⟨hk,hk.2.2⟩:_∧k_≠gb132))) (fun _ hk=>hk.2) (.int .i64 (wrap64 (t130+1)))) (fun _ h_=>h_.1)))) k_ hk,Kd.freshB (g:=gb116) (o:=.cells #[.int .i64 (wrap64 (t110-2)),.int .i64 (wrap64 (t113-2))] 80 (0,0)) (eW BK116) k_ hk,Kd.freshB (g:=gb132) (o:=.cells #[.int .i64 (wrap64 (t130+1)),.int .i64 t131] 80 (0,0)) (eW BK132) k_ hk⟩));(case aO=>exact (by (with_reducible repeat (first|apply fK|apply gF|apply eQ));exact Kd.R_mono (Kd.R_far (p:=⟨gb132,0,none⟩) (Kd.R_mono HO_6.out (fun k_ hk=>(⟨hk,hk.2.2⟩:_∧k_≠gb132))) (fun _ hk=>hk.2) (.int .i64 (wrap64 (t130+1)))) (fun _ hk=>⟨hk.1.1,⟨hk.1.2.1,hk.1.2.2⟩⟩)));(case aS=>exact (aM (cM HB (aJ HI104.out))));(case aL=>have:=LMc28.out;omega);intro v137 w43 ho hb hg hat;rw [← Ny136.out] at ho;replace HO_4:=aD (Kd.R_after (ok:=(fun k_=>k_≠gb116∧k_≠gb132)) (by (with_reducible repeat (first|apply fK|apply gF|apply eQ));exact Kd.R_mono (Kd.R_far (p:=⟨gb132,0,none⟩) (Kd.R_mono HO_4.out (fun k_ hk=>(⟨hk,hk.2.2⟩:_∧k_≠gb132))) (fun _ hk=>hk.2) (.int .i64 (wrap64 (t130+1)))) (fun _ hk=>⟨⟨hk.1.2.1,hk.1.2.2⟩,hk.1.1⟩)) hg hat);replace BK116:=aD (pA (g:=gb116) (o:=.cells #[.int .i64 (wrap64 (t110-2)),.int .i64 (wrap64 (t113-2))] 80 (0,0)) (eW BK116) hg (Kd.R_away HO_6.out (fun _ hk=>hk.2.1)));replace HI104:=aD (aX.grown (show aX w _ g104 t101 t134 t135 from aR HI104) hg (aY HI104.out HO_6.out (by decide)));replace HB:=aD (hb);have HO138:=aD (ho);clear HO_6;clear ho hb hg hat))
     go_roundg k1
     case measure=>have:=HK1.out;omega
     case rel=>exact ⟨(y136),(wrap64 (x7_1+1)),(t134),(t135),eO,H',⟨by have:=HK1.out;omega⟩,⟨by (with_reducible repeat (first|apply fK|apply gF|apply eQ));exact Kd.R_mono HO_4.out (fun _ hk=>⟨hk.2,hk.1.1⟩)⟩,⟨by (with_reducible repeat (first|apply fK|apply gF|apply eQ));exact Kd.R_mono HO138.out (fun _ hk=>⟨hk.1,hk.2.1⟩)⟩,⟨cF BK116⟩,⟨aR HI104⟩,⟨cM HB (aJ HI104.out)⟩⟩
    ·replace c27:=Bool.eq_false_iff.mpr c27
     subst c27
     rw [if_neg (show ¬ (false=true) by decide)] at H
     obtain ⟨c44,H⟩:=iC H
     have LMc44:=aD c44
     clear c44
     obtain ⟨y139,hy139⟩:∃ y_:List (dB),y_=(x6_1++[(⟨t130,t131⟩:dB)]):=⟨_,rfl⟩
     first|(with_reducible replace H:=uU hy139 H)|(with_reducible replace H:=uV hy139 H)|rw [← hy139] at H
     have Ny139:=aD hy139
     clear hy139
     have H':=aD H
     clear H
     try go_wp2
     replace HO_4:=aD (eQ HO_4.out)
     replace HO_6:=aD (eQ HO_6.out)
     replace BK116:=aD (aK BK116.out)
     replace HI104:=aD (aX.drew HI104.out)
     replace HB:=aD (lC HB.out)
     obtain ⟨p123,q123,ad123,e123,hx123_0,hx123_1⟩:=wC (cC (Kd.R_reads' HO_4.out).2.2 x7_1)
     obtain rfl:ad117=ad123:=(by injection e123)
     refine eE (n:=11) (S:=fun w'=>w'.cell? ⟨gb116,0,none⟩=some (.int .i64 (wrap64 (t110-2)))∧w'.cell? ⟨gb116,1,none⟩=some (.int .i64 (wrap64 (t113-2)))∧w'.cell? (ad117.add ((x7_1).toNat*2))=some (.int .i64 ((aA t105 x7_1).f0))∧w'.cell? ⟨(ad117.add ((x7_1).toNat*2)).block,(ad117.add ((x7_1).toNat*2)).off+1,none⟩=some (.int .i64 ((aA t105 x7_1).f1))) (ds:=[]) (bm 11 0) (by kernel_rfl) rfl rfl ⟨aT BK116 0,aT BK116 1,hx123_0,hx123_1⟩ (fun hHeld=>?_);refine cX lP kY (fun HT_ HW_=>?_)
     generalize wr.drew=w45 at HO_4 HO_6 BK116 HI104 HB hx123_0 hx123_1 hHeld ⊢
     refine dG ((0,1,35,2)::(0,2,36,6)::(0,3,37,14)::(0,5,39,46)::(2,0,34,47)::(2,4,38,63)::[]) ?_
     iterate 6 (first|refine jT HT_ ?_|refine qB HT_ HW_ hHeld ?_)
     refine bL ?_
     refine sO (σ:=Value×Nat) 1 (bm 11 1023) (fun s_=>[(40,s_.1),(41,.int .i64 t127),(42,.agg #[.int .i64 t130,.int .i64 t131]),(8,.pointer (some ⟨s_.2,0,none⟩))]) (fun s_ w'=>(w'.cell? ⟨gb116,0,none⟩=some (.int .i64 (wrap64 (t110-2)))∧w'.cell? ⟨gb116,1,none⟩=some (.int .i64 (wrap64 (t113-2)))∧w'.cell? (ad117.add ((x7_1).toNat*2))=some (.int .i64 ((aA t105 x7_1).f0))∧w'.cell? ⟨(ad117.add ((x7_1).toNat*2)).block,(ad117.add ((x7_1).toNat*2)).off+1,none⟩=some (.int .i64 ((aA t105 x7_1).f1)))∧(Kd.R gA 80 w' w.heap.size (fun k_=>some k_≠(u6:Value).ownBlock∧k_≠gb116∧k_≠s_.2) (.slice (some ad117) t105.length co18) t105)∧(Kd.R gA 80 w' w.heap.size (fun k_=>some k_≠(.slice (some ad117) t105.length co18:Value).ownBlock∧k_≠gb116∧k_≠s_.2) u6 x6_1)∧(w'.heap[gb116]? = some (.cells #[.int .i64 (wrap64 (t110-2)),.int .i64 (wrap64 (t113-2))] 80 (0,0)))∧(w'.heap[s_.2]? = some (.cells #[.int .i64 0,.int .i64 0] 80 (0,0)))∧(w.heap.size≤s_.2)∧(w.heap.size≤s_.2)∧(g104≠s_.2)∧(s_.2≠g104)∧(gb116≠s_.2)∧(s_.2≠gb116)∧(aX w w' g104 t101 t128 t129)∧(Below w.heap.size w w')) ?_ ?_
     rotate_left
     ·intro hCont
      refine mF (i:=6) (j:=9) (Ni:=some 40) (Nj:=some 8) (bm 11 127) (bm 11 575) rfl rfl rfl rfl (gV HT_.out (by kernel_rfl)) (by decide) (by decide) (fun K hK=>?_) (fun K hK=>?_)
      ·skip
       refine Kd.R_lit_step (Kd.int .i64) _ 3 ?hg (N:=40) ?hd (xs:=([2,(-1),3,(-2)]:List Int)) (inner:=[.int .i64 2,.int .i64 (-1),.int .i64 3,.int .i64 (-2)]) (ok:=fun _=>True) (okp:=fun _=>True) ?hr ?hp (fun _ hk=>hk) trivial (Below.refl _ _) (Nat.le_refl _) (by simp) ?_;(case hd=>rfl);(case hg=>rfl);(case hr=>first|(go_simp;done)|(go_simp;rfl));(case hp=>exact (dF (show Kd.M (Kd.int .i64) _ _ _ 2 [.int .i64 2] from rfl) (dF (show Kd.M (Kd.int .i64) _ _ _ (-1) [.int .i64 (-1)] from rfl) (dF (show Kd.M (Kd.int .i64) _ _ _ 3 [.int .i64 3] from rfl) (dF (show Kd.M (Kd.int .i64) _ _ _ (-2) [.int .i64 (-2)] from rfl) (iE.none _ _))))))
       intro v125 w46 ho47 hb hg_ hnew_
       have HS2_:=cP hb hHeld.2.2.1
       have HS3_:=cP hb hHeld.2.2.2
       clear hg_ hnew_
       (first|rw [← Ny124.out] at ho47|(simp only [Int.reduceToNat] at ho47;rw [← Ny124.out] at ho47))
       replace HO_4:=aD (Kd.R_below (bN HO_4) hb)
       replace HO_6:=aD (Kd.R_below (bN HO_6) hb)
       have HO126:=aD (Kd.R_lower ho47 (aM (cM HB (aJ HI104.out))))
       replace BK116:=aD (aU BK116 hb)
       replace HB:=aD (aE (cM HB (aJ HI104.out)) hb)
       replace HI104:=aD (aX.below (aR HI104) hb)
       clear hb ho47
       obtain ⟨Ao48,co48,eo48⟩:=Kd.R_slice HO126.out
       (first|subst eo48|(injection eo48 with f1_ f2_ f3_;have f4_:=f1_.symm;have f5_:=f3_.symm;clear f1_ f2_ f3_;subst f4_;subst f5_))
       refine hK.out _ _ ⟨aT BK116 0,aT BK116 1,HS2_,HS3_⟩ (fun hHeld=>?_)
       clear hK K
       refine cW (some 40) ?_
       refine mF (i:=7) (j:=9) (Ni:=some 41) (Nj:=some 8) (bm 11 255) (bm 11 639) rfl rfl rfl rfl (gV HT_.out (by kernel_rfl)) (by decide) (by decide) (fun K hK=>?_) (fun K hK=>?_)
       ·skip
        refine bP Try.func108 #[.pointer (some ⟨g104,0,none⟩),.slice Ao48 y124.length co48] ?_
        with_reducible refine (dR g104 t101 x105001_1 x105002_1 _ _ y124 t127 t128 t129 w _ ?side1 ?side2 ?side3 ?side4 ?side5 A24.out).mono ?_
        (case side1=>exact aR HI104)
        (case side2=>exact cM HB (aJ HI104.out))
        (case side3=>exact nK (Kd.R_reads' HO126.out).2.2)
        (case side4=>exact (Kd.R_reads' HO126.out).2.1)
        (case side5=>exact iZ (aY HI104.out HO126.out (by decide)))
        rintro e w49 ⟨rfl,hi,hb,hk⟩
        have HS2_:=gC hk (hHeld.2.2.1) (by first|(rw [cA];exact Kd.own_blk (aY HI104.out HO_4.out (by decide)))|(show (Addr.add _ _).block≠_;rw [cA];exact Kd.own_blk (aY HI104.out HO_4.out (by decide)))|exact Kd.own_blk (aY HI104.out HO_4.out (by decide)))
        have HS3_:=gC hk (hHeld.2.2.2) (by first|(rw [cA];exact Kd.own_blk (aY HI104.out HO_4.out (by decide)))|(show (Addr.add _ _).block≠_;rw [cA];exact Kd.own_blk (aY HI104.out HO_4.out (by decide)))|exact Kd.own_blk (aY HI104.out HO_4.out (by decide)))
        refine ⟨_,rfl,?_⟩
        replace HO_4:=aD (Kd.R_mono (Kd.R_keep (aX.apart (show aX w _ g104 t101 x105001_1 x105002_1 from aR HI104) (bN HO_4) (by decide)) hk (fun _ h=>h.2)) (fun _ h=>h.1))
        replace HO_6:=aD (Kd.R_mono (Kd.R_keep (aX.apart (show aX w _ g104 t101 x105001_1 x105002_1 from aR HI104) (bN HO_6) (by decide)) hk (fun _ h=>h.2)) (fun _ h=>h.1))
        replace BK116:=aD (dO.blk hk (g':=gb116) (o:=.cells #[.int .i64 (wrap64 (t110-2)),.int .i64 (wrap64 (t113-2))] 80 (0,0)) (cF BK116) NB116_104.out (by simp))
        replace HB:=aD (hb)
        replace HI104:=aD (hi)
        (try clear hb)
        (try clear hb2)
        (try clear hk)
        (try clear hi)
        refine hK.out _ _ ⟨aT BK116 0,aT BK116 1,HS2_,HS3_⟩ (fun hHeld=>?_)
        clear hK K
        refine cW (some 41) ?_
        refine mF (i:=8) (j:=9) (Ni:=some 42) (Nj:=some 8) (bm 11 511) (bm 11 767) rfl rfl rfl rfl (gV HT_.out (by kernel_rfl)) (by decide) (by decide) (fun K hK=>?_) (fun K hK=>?_)
        ·skip
         refine bP Try.func138 #[.agg #[.int .i64 (wrap64 (t110-2)),.int .i64 (wrap64 (t113-2))],.agg #[.int .i64 ((aA t105 x7_1).f0),.int .i64 ((aA t105 x7_1).f1)],.int .i64 t127] ?_
         with_reducible refine (dP (wrap64 (t110-2)) (wrap64 (t113-2)) ((aA t105 x7_1).f0) ((aA t105 x7_1).f1) t127 t130 t131 _ A25.out).mono ?_
         rintro e w50 ⟨rfl,hb⟩
         have HS2_:=cP hb hHeld.2.2.1
         have HS3_:=cP hb hHeld.2.2.2
         refine ⟨_,rfl,?_⟩
         replace HO_4:=aD (Kd.R_below (bN HO_4) hb)
         replace HO_6:=aD (Kd.R_below (bN HO_6) hb)
         replace BK116:=aD (aU BK116 hb)
         replace HB:=aD (aE (cM HB (aJ HI104.out)) hb)
         replace HI104:=aD (aX.below (aR HI104) hb)
         (try clear hb)
         (try clear hb2)
         (try clear hk)
         (try clear hi)
         refine hK.out _ _ ⟨aT BK116 0,aT BK116 1,HS2_,HS3_⟩ (fun hHeld=>?_)
         clear hK K
         refine cW (some 42) ?_
         refine cS (i:=9) (N:=some 8) (bm 11 1023) rfl rfl (bI HT_.out (by kernel_rfl)) (by decide) (fun K hK=>?_)
         refine dQ ?hg (N:=8) ?hd (cs:=#[.int .i64 0,.int .i64 0]) (t:=80) ?hr ?_;(case hd=>rfl);(case hg=>rfl);(case hr=>first|(go_simp;done)|(go_simp;rfl))
         intro gb132 hg w51 hbox hb
         have HS2_:=cP hb hHeld.2.2.1
         have HS3_:=cP hb hHeld.2.2.2
         replace HO_4:=aD (Kd.R_below (Kd.R_elderB (bN HO_4) gb132 (Nat.le_of_eq hg.symm)) hb)
         replace HO_6:=aD (Kd.R_below (Kd.R_elderB (bN HO_6) gb132 (Nat.le_of_eq hg.symm)) hb)
         have BK132:=aD (hbox)
         have GW132:=aD ((by rw [hg];exact (aM (cM HB (aJ HI104.out))):w.heap.size≤gb132))
         have GE132:=aD ((by rw [hg];exact (aM (cM HB (aJ HI104.out))):w.heap.size≤gb132))
         replace HB:=aD (aE (cM HB (aJ HI104.out)) hb)
         have NB116_132:=aD ((bW BK116 hg))
         have NB132_116:=aD ((bX BK116 hg))
         replace BK116:=aD (aU BK116 hb)
         have NB104_132:=aD ((by rw [hg];exact Nat.ne_of_lt (bF (show aX w _ g104 t101 t128 t129 from aR HI104)):g104≠gb132))
         have NB132_104:=aD ((by rw [hg];exact Nat.ne_of_gt (bF (show aX w _ g104 t101 t128 t129 from aR HI104)):gb132≠g104))
         replace HI104:=aD (aX.below (aR HI104) hb)
         clear hb hbox hg
         refine hK.out _ _ ⟨aT BK116 0,aT BK116 1,HS2_,HS3_⟩ (fun hHeld=>?_)
         clear hK K
         refine cW (some 8) ?_
         exact fP (by simp only [eC,Act.put,List.setIfInBounds_toArray,List.set_cons_zero,List.set_cons_succ]) (hCont (.slice Ao48 y124.length co48,gb132) _ ⟨hHeld,(by (with_reducible repeat (first|apply fK|apply gF|apply eQ));exact Kd.R_mono HO_4.out (fun _ hk=>⟨hk.1.1,⟨hk.1.2,hk.2⟩⟩)),(by (with_reducible repeat (first|apply fK|apply gF|apply eQ));exact Kd.R_mono HO_6.out (fun _ hk=>⟨hk.1.1,⟨hk.1.2,hk.2⟩⟩)),(cF BK116),(cF BK132),GW132.out,GE132.out,NB104_132.out,NB132_104.out,NB116_132.out,NB132_116.out,(aR HI104),(cM HB (aJ HI104.out))⟩)
        ·skip
         refine dQ ?hg (N:=8) ?hd (cs:=#[.int .i64 0,.int .i64 0]) (t:=80) ?hr ?_;(case hd=>rfl);(case hg=>rfl);(case hr=>first|(go_simp;done)|(go_simp;rfl))
         intro gb132 hg w50 hbox hb
         have HS2_:=cP hb hHeld.2.2.1
         have HS3_:=cP hb hHeld.2.2.2
         replace HO_4:=aD (Kd.R_below (Kd.R_elderB (bN HO_4) gb132 (Nat.le_of_eq hg.symm)) hb)
         replace HO_6:=aD (Kd.R_below (Kd.R_elderB (bN HO_6) gb132 (Nat.le_of_eq hg.symm)) hb)
         have BK132:=aD (hbox)
         have GW132:=aD ((by rw [hg];exact (aM (cM HB (aJ HI104.out))):w.heap.size≤gb132))
         have GE132:=aD ((by rw [hg];exact (aM (cM HB (aJ HI104.out))):w.heap.size≤gb132))
         replace HB:=aD (aE (cM HB (aJ HI104.out)) hb)
         have NB116_132:=aD ((bW BK116 hg))
         have NB132_116:=aD ((bX BK116 hg))
         replace BK116:=aD (aU BK116 hb)
         have NB104_132:=aD ((by rw [hg];exact Nat.ne_of_lt (bF (show aX w _ g104 t101 t128 t129 from aR HI104)):g104≠gb132))
         have NB132_104:=aD ((by rw [hg];exact Nat.ne_of_gt (bF (show aX w _ g104 t101 t128 t129 from aR HI104)):gb132≠g104))
         replace HI104:=aD (aX.below (aR HI104) hb)
         clear hb hbox hg
         refine hK.out _ _ ⟨aT BK116 0,aT BK116 1,HS2_,HS3_⟩ (fun hHeld=>?_)
         clear hK K
         refine cW (some 8) ?_
         refine cS (i:=8) (N:=some 42) (bm 11 1023) rfl rfl (bI HT_.out (by kernel_rfl)) (by decide) (fun K hK=>?_)
         refine bP Try.func138 #[.agg #[.int .i64 (wrap64 (t110-2)),.int .i64 (wrap64 (t113-2))],.agg #[.int .i64 ((aA t105 x7_1).f0),.int .i64 ((aA t105 x7_1).f1)],.int .i64 t127] ?_
         with_reducible refine (dP (wrap64 (t110-2)) (wrap64 (t113-2)) ((aA t105 x7_1).f0) ((aA t105 x7_1).f1) t127 t130 t131 _ A25.out).mono ?_
         rintro e w51 ⟨rfl,hb⟩
         have HS2_:=cP hb hHeld.2.2.1
         have HS3_:=cP hb hHeld.2.2.2
         refine ⟨_,rfl,?_⟩
         replace HO_4:=aD (Kd.R_below (bN HO_4) hb)
         replace HO_6:=aD (Kd.R_below (bN HO_6) hb)
         replace BK116:=aD (aU BK116 hb)
         replace BK132:=aD (aU BK132 hb)
         replace HB:=aD (aE (cM HB (aJ HI104.out)) hb)
         replace HI104:=aD (aX.below (aR HI104) hb)
         (try clear hb)
         (try clear hb2)
         (try clear hk)
         (try clear hi)
         refine hK.out _ _ ⟨aT BK116 0,aT BK116 1,HS2_,HS3_⟩ (fun hHeld=>?_)
         clear hK K
         refine cW (some 42) ?_
         exact fP (by simp only [eC,Act.put,List.setIfInBounds_toArray,List.set_cons_zero,List.set_cons_succ]) (hCont (.slice Ao48 y124.length co48,gb132) _ ⟨hHeld,(by (with_reducible repeat (first|apply fK|apply gF|apply eQ));exact Kd.R_mono HO_4.out (fun _ hk=>⟨hk.1.1,⟨hk.1.2,hk.2⟩⟩)),(by (with_reducible repeat (first|apply fK|apply gF|apply eQ));exact Kd.R_mono HO_6.out (fun _ hk=>⟨hk.1.1,⟨hk.1.2,hk.2⟩⟩)),(cF BK116),(cF BK132),GW132.out,GE132.out,NB104_132.out,NB132_104.out,NB116_132.out,NB132_116.out,(aR HI104),(cM HB (aJ HI104.out))⟩)
       ·skip
        refine dQ ?hg (N:=8) ?hd (cs:=#[.int .i64 0,.int .i64 0]) (t:=80) ?hr ?_;(case hd=>rfl);(case hg=>rfl);(case hr=>first|(go_simp;done)|(go_simp;rfl))
        intro gb132 hg w48 hbox hb
        have HS2_:=cP hb hHeld.2.2.1
        have HS3_:=cP hb hHeld.2.2.2
        replace HO_4:=aD (Kd.R_below (Kd.R_elderB (bN HO_4) gb132 (Nat.le_of_eq hg.symm)) hb)
        replace HO_6:=aD (Kd.R_below (Kd.R_elderB (bN HO_6) gb132 (Nat.le_of_eq hg.symm)) hb)
        replace HO126:=aD (Kd.R_below (bN HO126) hb)
        have BK132:=aD (hbox)
        have GW132:=aD ((by rw [hg];exact (aM (cM HB (aJ HI104.out))):w.heap.size≤gb132))
        have GE132:=aD ((by rw [hg];exact (aM (cM HB (aJ HI104.out))):w.heap.size≤gb132))
        replace HB:=aD (aE (cM HB (aJ HI104.out)) hb)
        have NB116_132:=aD ((bW BK116 hg))
        have NB132_116:=aD ((bX BK116 hg))
        replace BK116:=aD (aU BK116 hb)
        have NB104_132:=aD ((by rw [hg];exact Nat.ne_of_lt (bF (show aX w _ g104 t101 x105001_1 x105002_1 from aR HI104)):g104≠gb132))
        have NB132_104:=aD ((by rw [hg];exact Nat.ne_of_gt (bF (show aX w _ g104 t101 x105001_1 x105002_1 from aR HI104)):gb132≠g104))
        replace HI104:=aD (aX.below (aR HI104) hb)
        clear hb hbox hg
        obtain ⟨Ao49,co49,eo49⟩:=Kd.R_slice HO126.out
        (first|subst eo49|(injection eo49 with f1_ f2_ f3_;have f4_:=f1_.symm;have f5_:=f3_.symm;clear f1_ f2_ f3_;subst f4_;subst f5_))
        refine hK.out _ _ ⟨aT BK116 0,aT BK116 1,HS2_,HS3_⟩ (fun hHeld=>?_)
        clear hK K
        refine cW (some 8) ?_
        refine cS (i:=7) (N:=some 41) (bm 11 767) rfl rfl (bI HT_.out (by kernel_rfl)) (by decide) (fun K hK=>?_)
        refine bP Try.func108 #[.pointer (some ⟨g104,0,none⟩),.slice Ao49 y124.length co49] ?_
        with_reducible refine (dR g104 t101 x105001_1 x105002_1 _ _ y124 t127 t128 t129 w _ ?side1 ?side2 ?side3 ?side4 ?side5 A24.out).mono ?_
        (case side1=>exact aR HI104)
        (case side2=>exact cM HB (aJ HI104.out))
        (case side3=>exact nK (Kd.R_reads' HO126.out).2.2)
        (case side4=>exact (Kd.R_reads' HO126.out).2.1)
        (case side5=>exact iZ (aY HI104.out HO126.out (by decide)))
        rintro e w50 ⟨rfl,hi,hb,hk⟩
        have HS2_:=gC hk (hHeld.2.2.1) (by first|(rw [cA];exact Kd.own_blk (aY HI104.out HO_4.out (by decide)))|(show (Addr.add _ _).block≠_;rw [cA];exact Kd.own_blk (aY HI104.out HO_4.out (by decide)))|exact Kd.own_blk (aY HI104.out HO_4.out (by decide)))
        have HS3_:=gC hk (hHeld.2.2.2) (by first|(rw [cA];exact Kd.own_blk (aY HI104.out HO_4.out (by decide)))|(show (Addr.add _ _).block≠_;rw [cA];exact Kd.own_blk (aY HI104.out HO_4.out (by decide)))|exact Kd.own_blk (aY HI104.out HO_4.out (by decide)))
        refine ⟨_,rfl,?_⟩
        replace HO_4:=aD (Kd.R_mono (Kd.R_keep (aX.apart (show aX w _ g104 t101 x105001_1 x105002_1 from aR HI104) (bN HO_4) (by decide)) hk (fun _ h=>h.2)) (fun _ h=>h.1))
        replace HO_6:=aD (Kd.R_mono (Kd.R_keep (aX.apart (show aX w _ g104 t101 x105001_1 x105002_1 from aR HI104) (bN HO_6) (by decide)) hk (fun _ h=>h.2)) (fun _ h=>h.1))
        replace BK116:=aD (dO.blk hk (g':=gb116) (o:=.cells #[.int .i64 (wrap64 (t110-2)),.int .i64 (wrap64 (t113-2))] 80 (0,0)) (cF BK116) NB116_104.out (by simp))
        replace BK132:=aD (dO.blk hk (g':=gb132) (o:=.cells #[.int .i64 0,.int .i64 0] 80 (0,0)) (cF BK132) NB132_104.out (by simp))
        replace HB:=aD (hb)
        replace HI104:=aD (hi)
        (try clear hb)
        (try clear hb2)
        (try clear hk)
        (try clear hi)
        refine hK.out _ _ ⟨aT BK116 0,aT BK116 1,HS2_,HS3_⟩ (fun hHeld=>?_)
        clear hK K
        refine cW (some 41) ?_
        refine cS (i:=8) (N:=some 42) (bm 11 1023) rfl rfl (bI HT_.out (by kernel_rfl)) (by decide) (fun K hK=>?_)
        refine bP Try.func138 #[.agg #[.int .i64 (wrap64 (t110-2)),.int .i64 (wrap64 (t113-2))],.agg #[.int .i64 ((aA t105 x7_1).f0),.int .i64 ((aA t105 x7_1).f1)],.int .i64 t127] ?_
        with_reducible refine (dP (wrap64 (t110-2)) (wrap64 (t113-2)) ((aA t105 x7_1).f0) ((aA t105 x7_1).f1) t127 t130 t131 _ A25.out).mono ?_
        rintro e w51 ⟨rfl,hb⟩
        have HS2_:=cP hb hHeld.2.2.1
        have HS3_:=cP hb hHeld.2.2.2
        refine ⟨_,rfl,?_⟩
        replace HO_4:=aD (Kd.R_below (bN HO_4) hb)
        replace HO_6:=aD (Kd.R_below (bN HO_6) hb)
        replace BK116:=aD (aU BK116 hb)
        replace BK132:=aD (aU BK132 hb)
        replace HB:=aD (aE (cM HB (aJ HI104.out)) hb)
        replace HI104:=aD (aX.below (aR HI104) hb)
        (try clear hb)
        (try clear hb2)
        (try clear hk)
        (try clear hi)
        refine hK.out _ _ ⟨aT BK116 0,aT BK116 1,HS2_,HS3_⟩ (fun hHeld=>?_)
        clear hK K
        refine cW (some 42) ?_
        exact fP (by simp only [eC,Act.put,List.setIfInBounds_toArray,List.set_cons_zero,List.set_cons_succ]) (hCont (.slice Ao49 y124.length co49,gb132) _ ⟨hHeld,(by (with_reducible repeat (first|apply fK|apply gF|apply eQ));exact Kd.R_mono HO_4.out (fun _ hk=>⟨hk.1.1,⟨hk.1.2,hk.2⟩⟩)),(by (with_reducible repeat (first|apply fK|apply gF|apply eQ));exact Kd.R_mono HO_6.out (fun _ hk=>⟨hk.1.1,⟨hk.1.2,hk.2⟩⟩)),(cF BK116),(cF BK132),GW132.out,GE132.out,NB104_132.out,NB132_104.out,NB116_132.out,NB132_116.out,(aR HI104),(cM HB (aJ HI104.out))⟩)
      ·skip
       refine dQ ?hg (N:=8) ?hd (cs:=#[.int .i64 0,.int .i64 0]) (t:=80) ?hr ?_;(case hd=>rfl);(case hg=>rfl);(case hr=>first|(go_simp;done)|(go_simp;rfl))
       intro gb132 hg w46 hbox hb
       have HS2_:=cP hb hHeld.2.2.1
       have HS3_:=cP hb hHeld.2.2.2
       replace HO_4:=aD (Kd.R_below (Kd.R_elderB (bN HO_4) gb132 (Nat.le_of_eq hg.symm)) hb)
       replace HO_6:=aD (Kd.R_below (Kd.R_elderB (bN HO_6) gb132 (Nat.le_of_eq hg.symm)) hb)
       have BK132:=aD (hbox)
       have GW132:=aD ((by rw [hg];exact (aM (cM HB (aJ HI104.out))):w.heap.size≤gb132))
       have GE132:=aD ((by rw [hg];exact (aM (cM HB (aJ HI104.out))):w.heap.size≤gb132))
       replace HB:=aD (aE (cM HB (aJ HI104.out)) hb)
       have NB116_132:=aD ((bW BK116 hg))
       have NB132_116:=aD ((bX BK116 hg))
       replace BK116:=aD (aU BK116 hb)
       have NB104_132:=aD ((by rw [hg];exact Nat.ne_of_lt (bF (show aX w _ g104 t101 x105001_1 x105002_1 from aR HI104)):g104≠gb132))
       have NB132_104:=aD ((by rw [hg];exact Nat.ne_of_gt (bF (show aX w _ g104 t101 x105001_1 x105002_1 from aR HI104)):gb132≠g104))
       replace HI104:=aD (aX.below (aR HI104) hb)
       clear hb hbox hg
       refine hK.out _ _ ⟨aT BK116 0,aT BK116 1,HS2_,HS3_⟩ (fun hHeld=>?_)
       clear hK K
       refine cW (some 8) ?_
       refine cS (i:=6) (N:=some 40) (bm 11 639) rfl rfl (bI HT_.out (by kernel_rfl)) (by decide) (fun K hK=>?_)
       refine Kd.R_lit_step (Kd.int .i64) _ 3 ?hg (N:=40) ?hd (xs:=([2,(-1),3,(-2)]:List Int)) (inner:=[.int .i64 2,.int .i64 (-1),.int .i64 3,.int .i64 (-2)]) (ok:=fun _=>True) (okp:=fun _=>True) ?hr ?hp (fun _ hk=>hk) trivial (Below.refl _ _) (Nat.le_refl _) (by simp) ?_;(case hd=>rfl);(case hg=>rfl);(case hr=>first|(go_simp;done)|(go_simp;rfl));(case hp=>exact (dF (show Kd.M (Kd.int .i64) _ _ _ 2 [.int .i64 2] from rfl) (dF (show Kd.M (Kd.int .i64) _ _ _ (-1) [.int .i64 (-1)] from rfl) (dF (show Kd.M (Kd.int .i64) _ _ _ 3 [.int .i64 3] from rfl) (dF (show Kd.M (Kd.int .i64) _ _ _ (-2) [.int .i64 (-2)] from rfl) (iE.none _ _))))))
       intro v125 w47 ho48 hb hg_ hnew_
       have HS2_:=cP hb hHeld.2.2.1
       have HS3_:=cP hb hHeld.2.2.2
       clear hg_ hnew_
       (first|rw [← Ny124.out] at ho48|(simp only [Int.reduceToNat] at ho48;rw [← Ny124.out] at ho48))
       replace HO_4:=aD (Kd.R_below (bN HO_4) hb)
       replace HO_6:=aD (Kd.R_below (bN HO_6) hb)
       have HO126:=aD (Kd.R_lower ho48 (aM (cM HB (aJ HI104.out))))
       replace BK116:=aD (aU BK116 hb)
       replace BK132:=aD (aU BK132 hb)
       replace HB:=aD (aE (cM HB (aJ HI104.out)) hb)
       replace HI104:=aD (aX.below (aR HI104) hb)
       clear hb ho48
       obtain ⟨Ao49,co49,eo49⟩:=Kd.R_slice HO126.out
       (first|subst eo49|(injection eo49 with f1_ f2_ f3_;have f4_:=f1_.symm;have f5_:=f3_.symm;clear f1_ f2_ f3_;subst f4_;subst f5_))
       refine hK.out _ _ ⟨aT BK116 0,aT BK116 1,HS2_,HS3_⟩ (fun hHeld=>?_)
       clear hK K
       refine cW (some 40) ?_
       refine cS (i:=7) (N:=some 41) (bm 11 767) rfl rfl (bI HT_.out (by kernel_rfl)) (by decide) (fun K hK=>?_)
       refine bP Try.func108 #[.pointer (some ⟨g104,0,none⟩),.slice Ao49 y124.length co49] ?_
       with_reducible refine (dR g104 t101 x105001_1 x105002_1 _ _ y124 t127 t128 t129 w _ ?side1 ?side2 ?side3 ?side4 ?side5 A24.out).mono ?_
       (case side1=>exact aR HI104)
       (case side2=>exact cM HB (aJ HI104.out))
       (case side3=>exact nK (Kd.R_reads' HO126.out).2.2)
       (case side4=>exact (Kd.R_reads' HO126.out).2.1)
       (case side5=>exact iZ (aY HI104.out HO126.out (by decide)))
       rintro e w50 ⟨rfl,hi,hb,hk⟩
       have HS2_:=gC hk (hHeld.2.2.1) (by first|(rw [cA];exact Kd.own_blk (aY HI104.out HO_4.out (by decide)))|(show (Addr.add _ _).block≠_;rw [cA];exact Kd.own_blk (aY HI104.out HO_4.out (by decide)))|exact Kd.own_blk (aY HI104.out HO_4.out (by decide)))
       have HS3_:=gC hk (hHeld.2.2.2) (by first|(rw [cA];exact Kd.own_blk (aY HI104.out HO_4.out (by decide)))|(show (Addr.add _ _).block≠_;rw [cA];exact Kd.own_blk (aY HI104.out HO_4.out (by decide)))|exact Kd.own_blk (aY HI104.out HO_4.out (by decide)))
       refine ⟨_,rfl,?_⟩
       replace HO_4:=aD (Kd.R_mono (Kd.R_keep (aX.apart (show aX w _ g104 t101 x105001_1 x105002_1 from aR HI104) (bN HO_4) (by decide)) hk (fun _ h=>h.2)) (fun _ h=>h.1))
       replace HO_6:=aD (Kd.R_mono (Kd.R_keep (aX.apart (show aX w _ g104 t101 x105001_1 x105002_1 from aR HI104) (bN HO_6) (by decide)) hk (fun _ h=>h.2)) (fun _ h=>h.1))
       replace BK116:=aD (dO.blk hk (g':=gb116) (o:=.cells #[.int .i64 (wrap64 (t110-2)),.int .i64 (wrap64 (t113-2))] 80 (0,0)) (cF BK116) NB116_104.out (by simp))
       replace BK132:=aD (dO.blk hk (g':=gb132) (o:=.cells #[.int .i64 0,.int .i64 0] 80 (0,0)) (cF BK132) NB132_104.out (by simp))
       replace HB:=aD (hb)
       replace HI104:=aD (hi)
       (try clear hb)
       (try clear hb2)
       (try clear hk)
       (try clear hi)
       refine hK.out _ _ ⟨aT BK116 0,aT BK116 1,HS2_,HS3_⟩ (fun hHeld=>?_)
       clear hK K
       refine cW (some 41) ?_
       refine cS (i:=8) (N:=some 42) (bm 11 1023) rfl rfl (bI HT_.out (by kernel_rfl)) (by decide) (fun K hK=>?_)
       refine bP Try.func138 #[.agg #[.int .i64 (wrap64 (t110-2)),.int .i64 (wrap64 (t113-2))],.agg #[.int .i64 ((aA t105 x7_1).f0),.int .i64 ((aA t105 x7_1).f1)],.int .i64 t127] ?_
       with_reducible refine (dP (wrap64 (t110-2)) (wrap64 (t113-2)) ((aA t105 x7_1).f0) ((aA t105 x7_1).f1) t127 t130 t131 _ A25.out).mono ?_
       rintro e w51 ⟨rfl,hb⟩
       have HS2_:=cP hb hHeld.2.2.1
       have HS3_:=cP hb hHeld.2.2.2
       refine ⟨_,rfl,?_⟩
       replace HO_4:=aD (Kd.R_below (bN HO_4) hb)
       replace HO_6:=aD (Kd.R_below (bN HO_6) hb)
       replace BK116:=aD (aU BK116 hb)
       replace BK132:=aD (aU BK132 hb)
       replace HB:=aD (aE (cM HB (aJ HI104.out)) hb)
       replace HI104:=aD (aX.below (aR HI104) hb)
       (try clear hb)
       (try clear hb2)
       (try clear hk)
       (try clear hi)
       refine hK.out _ _ ⟨aT BK116 0,aT BK116 1,HS2_,HS3_⟩ (fun hHeld=>?_)
       clear hK K
       refine cW (some 42) ?_
       exact fP (by simp only [eC,Act.put,List.setIfInBounds_toArray,List.set_cons_zero,List.set_cons_succ]) (hCont (.slice Ao49 y124.length co49,gb132) _ ⟨hHeld,(by (with_reducible repeat (first|apply fK|apply gF|apply eQ));exact Kd.R_mono HO_4.out (fun _ hk=>⟨hk.1.1,⟨hk.1.2,hk.2⟩⟩)),(by (with_reducible repeat (first|apply fK|apply gF|apply eQ));exact Kd.R_mono HO_6.out (fun _ hk=>⟨hk.1.1,⟨hk.1.2,hk.2⟩⟩)),(cF BK116),(cF BK132),GW132.out,GE132.out,NB104_132.out,NB132_104.out,NB116_132.out,NB132_116.out,(aR HI104),(cM HB (aJ HI104.out))⟩)
     rintro ⟨v125,gb132⟩ w52 ⟨hS_,h1_,h2_,h3_,h4_,h5_,h6_,h7_,h8_,h9_,h10_,h11_,h12_⟩
     have n1_:Aside0 (Kd.R gA 80 w52 w.heap.size (fun k_=>some k_≠(u6:Value).ownBlock∧k_≠gb116∧k_≠gb132) (.slice (some ad117) t105.length co18) t105):=⟨h1_⟩
     have n2_:Aside0 (Kd.R gA 80 w52 w.heap.size (fun k_=>some k_≠(.slice (some ad117) t105.length co18:Value).ownBlock∧k_≠gb116∧k_≠gb132) u6 x6_1):=⟨h2_⟩
     have n3_:Aside0 (w52.heap[gb116]? = some (.cells #[.int .i64 (wrap64 (t110-2)),.int .i64 (wrap64 (t113-2))] 80 (0,0))):=⟨h3_⟩
     have n4_:Aside0 (w52.heap[gb132]? = some (.cells #[.int .i64 0,.int .i64 0] 80 (0,0))):=⟨h4_⟩
     have n5_:Aside0 (w.heap.size≤gb132):=⟨h5_⟩
     have n6_:Aside0 (w.heap.size≤gb132):=⟨h6_⟩
     have n7_:Aside0 (g104≠gb132):=⟨h7_⟩
     have n8_:Aside0 (gb132≠g104):=⟨h8_⟩
     have n9_:Aside0 (gb116≠gb132):=⟨h9_⟩
     have n10_:Aside0 (gb132≠gb116):=⟨h10_⟩
     have n11_:Aside0 (aX w w52 g104 t101 t128 t129):=⟨h11_⟩
     have n12_:Aside0 (Below w.heap.size w w52):=⟨h12_⟩
     clear HO_4
     clear HO_6
     clear BK116
     clear HI104
     clear HB
     clear h1_ h2_ h3_ h4_ h5_ h6_ h7_ h8_ h9_ h10_ h11_ h12_
     have HO_4:=n1_
     have HO_6:=n2_
     have BK116:=n3_
     have BK132:=n4_
     have GW132:=n5_
     have GE132:=n6_
     have NB104_132:=n7_
     have NB132_104:=n8_
     have NB116_132:=n9_
     have NB132_116:=n10_
     have HI104:=n11_
     have HB:=n12_
     clear n1_ n2_ n3_ n4_ n5_ n6_ n7_ n8_ n9_ n10_ n11_ n12_
     have hHeld:w52.cell? ⟨gb116,0,none⟩=some (.int .i64 (wrap64 (t110-2)))∧w52.cell? ⟨gb116,1,none⟩=some (.int .i64 (wrap64 (t113-2)))∧w52.cell? (ad117.add ((x7_1).toNat*2))=some (.int .i64 ((aA t105 x7_1).f0))∧w52.cell? ⟨(ad117.add ((x7_1).toNat*2)).block,(ad117.add ((x7_1).toNat*2)).off+1,none⟩=some (.int .i64 ((aA t105 x7_1).f1)):=hS_
     refine fP (a':=?_) ?_ ?_
     rotate_left
     ·simp only [eC,Act.put,List.setIfInBounds_toArray,List.set_cons_zero,List.set_cons_succ]
      rfl
     refine cS (i:=10) (N:=none) (bm 11 2047) rfl rfl (bI HT_.out (by kernel_rfl)) (by decide) (fun K hK=>?_)
     have hs53:w52.cell? ⟨gb132,0,none⟩=some (.int .i64 0):=aT BK132 0
     have hfs53:=aC BK132.out 0
     have hns53_0:=NB116_132.out
     have hms53_0:=NB132_116.out
     have hs54:w52.cell? ⟨gb132,1,none⟩=some (.int .i64 0):=aT BK132 1
     have hfs54:=aC BK132.out 1
     have hns54_0:=NB116_132.out
     have hms54_0:=NB132_116.out
     refine fW (w1:=?_) (by rfl) rfl ?_ ?_
     rotate_left
     ·go_simp
      rfl
     refine hK.out _ _ ⟨(cU NB116_132 ((cU NB116_132 hHeld.1))),(cU NB116_132 ((cU NB116_132 hHeld.2.1))),(dT (Kd.own_blk (Kd.R_away HO_4.out (fun _ hk=>hk.2.2))) ((dT (Kd.own_blk (Kd.R_away HO_4.out (fun _ hk=>hk.2.2))) hHeld.2.2.1))),(dT (Kd.own_blk (Kd.R_away HO_4.out (fun _ hk=>hk.2.2))) ((dT (Kd.own_blk (Kd.R_away HO_4.out (fun _ hk=>hk.2.2))) hHeld.2.2.2)))⟩ (fun hHeld=>?_)
     clear hK K
     refine dD (dZ HT_.out (by kernel_rfl)) ?_
     try go_wp2_with (first|((with_reducible refine aV (f:=107) rfl ?_);refine bK (some 44) Try.func107 #[.pointer (some ⟨g104,0,none⟩),.int .i64 8] ?_;(with_reducible refine (cI g104 t101 t128 t129 8 false t134 t135 w _ ?side1 ?side2 A26.out).mono ?_);(case side1=>exact aR HI104);(case side2=>exact cM HB (aJ HI104.out));rintro e w55 ⟨rfl,hi,hb,hk⟩;refine ⟨_,rfl,?_⟩;replace HO_4:=aD (Kd.R_mono (Kd.R_keep (aX.apart (show aX w _ g104 t101 t128 t129 from aR HI104) (by (with_reducible repeat (first|apply fK|apply gF|apply eQ));exact (Kd.R_mono (Kd.R_far (p:=⟨gb132,1,none⟩) (Kd.R_far (p:=⟨gb132,0,none⟩) (Kd.R_mono HO_4.out (fun k_ hk=>(⟨hk,hk.2.2⟩:_∧k_≠gb132))) (fun _ hk=>hk.2) (.int .i64 t130)) (fun _ hk=>hk.2) (.int .i64 t131)) (fun _ h_=>h_.1))) (by decide)) hk (fun _ h=>h.2)) (fun _ h=>h.1));replace HO_6:=aD (Kd.R_mono (Kd.R_keep (aX.apart (show aX w _ g104 t101 t128 t129 from aR HI104) (by (with_reducible repeat (first|apply fK|apply gF|apply eQ));exact (Kd.R_mono (Kd.R_far (p:=⟨gb132,1,none⟩) (Kd.R_far (p:=⟨gb132,0,none⟩) (Kd.R_mono HO_6.out (fun k_ hk=>(⟨hk,hk.2.2⟩:_∧k_≠gb132))) (fun _ hk=>hk.2) (.int .i64 t130)) (fun _ hk=>hk.2) (.int .i64 t131)) (fun _ h_=>h_.1))) (by decide)) hk (fun _ h=>h.2)) (fun _ h=>h.1));replace BK116:=aD (dO.blk hk (g':=gb116) (o:=.cells #[.int .i64 (wrap64 (t110-2)),.int .i64 (wrap64 (t113-2))] 80 (0,0)) (eW BK116) NB116_104.out (by simp));replace BK132:=aD (dO.blk hk (g':=gb132) (o:=.cells #[.int .i64 t130,.int .i64 t131] 80 (0,0)) (eW BK132) NB132_104.out (by simp));replace HB:=aD (hb);replace HI104:=aD (hi);(try clear hb);(try clear hb2);(try clear hk);(try clear hi);have hnb56:=NB132_116.out;have hnc56:=NB116_132.out;have hnb57:=NB132_104.out;have hnc57:=NB104_132.out;have hcz58_0:=aT BK132 0;have hcz58_1:=aT BK132 1;have hfz58_0:=aC BK132.out 0;have hfz58_1:=aC BK132.out 1)|((with_reducible refine fL (b:=.append) (xs:=#[.tmp 49,.tmp 51]) rfl ?_);at_builtin;refine Kd.R_append gA (w0:=w) w.heap.size rfl (.tmp 49) (.tmp 51) 61 80 (.agg #[(.int .i64 0),(.int .i64 0)]) 16 rfl Try.underlying61 qA rfl (by decide) (by omega) u6 x6_1 (⟨t130,t131⟩:dB) [.int .i64 t130,.int .i64 t131] (fun k_=>some k_≠(.slice (some ad117) t105.length co18:Value).ownBlock∧k_≠gb116∧k_≠gb132) (fun _=>False) rfl rfl ?aP (fun _ hk=>hk.elim) ?aF ?aO ?aB ?aS ?aL ?_;(case aP=>exact gE _ _ _ (⟨t130,t131⟩:dB));(case aB=>exact (cM HB (aJ HI104.out)));(case aF=>exact (fun k_ hk=>⟨Kd.fresh' (Kd.R_lt (bN HO_4)) k_ hk,Kd.freshB (g:=gb116) (o:=.cells #[.int .i64 (wrap64 (t110-2)),.int .i64 (wrap64 (t113-2))] 80 (0,0)) (cF BK116) k_ hk,Kd.freshB (g:=gb132) (o:=.cells #[.int .i64 t130,.int .i64 t131] 80 (0,0)) (cF BK132) k_ hk⟩));(case aO=>exact (bN HO_6));(case aS=>exact (aM (cM HB (aJ HI104.out))));(case aL=>have:=LMc44.out;omega);intro v140 w59 ho hb hg hat;rw [← Ny139.out] at ho;replace HO_4:=aD (Kd.R_after (ok:=(fun k_=>k_≠gb116∧k_≠gb132)) (by (with_reducible repeat (first|apply fK|apply gF|apply eQ));exact Kd.R_mono HO_4.out (fun _ hk=>⟨⟨hk.2.1,hk.2.2⟩,hk.1⟩)) hg hat);replace BK116:=aD (pA (g:=gb116) (o:=.cells #[.int .i64 (wrap64 (t110-2)),.int .i64 (wrap64 (t113-2))] 80 (0,0)) (cF BK116) hg (Kd.R_away HO_6.out (fun _ hk=>hk.2.1)));replace HI104:=aD (aX.grown (show aX w _ g104 t101 t134 t135 from aR HI104) hg (aY HI104.out HO_6.out (by decide)));replace HB:=aD (hb);have HO141:=aD (ho);clear HO_6;clear ho hb hg hat))
     go_roundg k1
     case measure=>have:=HK1.out;omega
     case rel=>exact ⟨(y139),(wrap64 (x7_1+1)),(t134),(t135),eO,H',⟨by have:=HK1.out;omega⟩,⟨by (with_reducible repeat (first|apply fK|apply gF|apply eQ));exact Kd.R_mono HO_4.out (fun _ hk=>⟨hk.2,hk.1.1⟩)⟩,⟨by (with_reducible repeat (first|apply fK|apply gF|apply eQ));exact Kd.R_mono HO141.out (fun _ hk=>⟨hk.1,hk.2.1⟩)⟩,⟨cF BK116⟩,⟨aR HI104⟩,⟨cM HB (aJ HI104.out)⟩⟩
   ·obtain rfl:=Option.some.inj H
    go_wp2
    go_ret
    exact ⟨_,dA,by (with_reducible repeat (first|apply fK|apply gF|apply eQ));exact Kd.R_mono HO_6.out (fun _ hk=>trivial),cM HB (aJ HI104.out)⟩
/-! ### spec_DrawDesarguesOf: function 80 -/
def spec_DrawDesarguesOf.f (k:Nat) (l0:List Int):Option ((List (dB))):=(spec_l26Pair.f k l0).bind fun t101=>(some t101)
set_option maxHeartbeats 8000000 in
set_option maxRecDepth 100000 in
theorem kZ (k:Nat) (A0:Option Addr) (c0:Nat) (l0:List Int) (r:List (dB)) (w:World) (hr0:Kd.C (Kd.int .u8) w A0 l0.length l0) (hc0:l0.length≤c0) (h:spec_DrawDesarguesOf.f k l0=some r) :
  Calls Try.prog 80 #[.slice A0 l0.length c0] w fun e w'=>∃ v0_:Value,e=.returned (v0_)∧Kd.R gA 80 w' w.heap.size (fun _=>True) v0_ r∧Below w.heap.size w w':=by
 have HR0:=aD hr0
 have HC0:=aD hc0
 clear hr0 hc0
 have HB:=aD (Below.refl w.heap.size w)
 unfold spec_DrawDesarguesOf.f at h
 have H:=h
 clear h
 replace H:=fQ H
 obtain ⟨t101,A2,H⟩:=H
 obtain rfl:=Option.some.inj H
 go_enter Try.func80,Try.ntmps80
 go_wp2_with (first|((with_reducible refine aV (f:=139) rfl ?_);refine bK (some 4) Try.func139 #[.slice A0 l0.length c0] ?_;(with_reducible refine (qO k _ _ l0 t101 _ ?side1 ?side2 A2.out).mono ?_);(case side1=>exact nK HR0.out);(case side2=>exact HC0.out);rintro e w3 ⟨v102,rfl,ho0,hb⟩;refine ⟨_,rfl,?_⟩;have HO103:=aD (Kd.R_lower ho0 (aM (bM HB)));replace HB:=aD (aE (bM HB) hb);(try clear hb);(try clear ho0)))
 go_ret
 exact ⟨_,dA,bN HO103,bM HB⟩
end Go.Proofs.Ytldcckcljjlglaa.P

