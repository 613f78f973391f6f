/- A part of the proof of FnIncidences: printed contracts and plain laws, joined by a program of this session. -/
import Derived.Test.YtldcckcljjlglaaZFnIncidences4
namespace Go.Proofs.Ytldcckcljjlglaa.P
open Go.RowKit Go.Proofs.YtldcckcljjlglaaW.PrintWords Go.Proofs.YtldcckcljjlglaaW.PrintLast Go.Proofs.YtldcckcljjlglaaW.PrintMore
attribute [local go_sem] max2_int min2_int max_two min_two max_three min_three max_four min_four
set_option linter.unusedVariables false
set_option linter.unusedSimpArgs false
/-! ### spec_l2Three: function 140 -/
def spec_l2Three.f (k:Nat) (l0:List Int):Option (Int×Int×Int×Int×Int×Int):=(spec_l1New.f k l0).bind fun bt104=>((spec_l2Draw.f k bt104.1 bt104.2.1 bt104.2.2).bind fun bt108=>(if 2<(bt108.1.length:Int) then ((spec_l1Below.f bt104.1 bt108.2.1 bt108.2.2 6).bind fun bt115=>(if bt115.1=0 then ((spec_l1PickInt.f bt104.1 bt115.2.1 bt115.2.2 (([1000,1001,(-1001)]:List Int))).bind fun bt121=>(if 0<(bt108.1.length:Int) then (if 1<(bt108.1.length:Int) then (some ((aA bt108.1 0).f0,(aA bt108.1 0).f1,(aA bt108.1 1).f0,(aA bt108.1 1).f1,bt121.1,(aA bt108.1 2).f1)) else (none)) else (none))) else (if bt115.1=1 then (if 0<(bt108.1.length:Int) then (if 1<(bt108.1.length:Int) then (some ((aA bt108.1 0).f0,(aA bt108.1 0).f1,(aA bt108.1 1).f0,(aA bt108.1 1).f1,(aA bt108.1 0).f0,(aA bt108.1 0).f1)) else (none)) else (none)) else (if bt115.1=2 then (if 1<(bt108.1.length:Int) then (if 0<(bt108.1.length:Int) then (some ((aA bt108.1 0).f0,(aA bt108.1 0).f1,(aA bt108.1 1).f0,(aA bt108.1 1).f1,wrap64 ((wrap64 (2*((aA bt108.1 1).f0)))-((aA bt108.1 0).f0)),wrap64 ((wrap64 (2*((aA bt108.1 1).f1)))-((aA bt108.1 0).f1)))) else (none)) else (none)) else (if 0<(bt108.1.length:Int) then (if 1<(bt108.1.length:Int) then (some ((aA bt108.1 0).f0,(aA bt108.1 0).f1,(aA bt108.1 1).f0,(aA bt108.1 1).f1,(aA bt108.1 2).f0,(aA bt108.1 2).f1)) else (none)) else (none)))))) else (none)))
def mR:Bool×List (List Nat×List Nat):=(true,[([],[]),([0],[0]),([1],[1]),([2],[2]),([3],[3]),([],[]),([5],[5]),([6],[6]),([7],[7]),([4,8],[4,8]),([],[]),([10],[10]),([11],[11]),([12],[12]),([13],[13]),([],[]),([15],[15]),([16],[16]),([17],[17]),([14,18],[14,18]),([9,19],[9,19]),([20,0,1,2,3,4,5,6,7,8,9,10,11,12,13,14,15,16,17,18,19,20],[20])])
def sA:List Nat:=[0,1,3,7,15,0,32,96,224,511,0,1024,3072,7168,15360,0,32768,98304,229376,523264,1048575,2097151]
theorem qP:gK .any (iQ Try.f140 10)=mR:=by kernel_rfl
theorem pT:eU mR.2 sA=true:=by kernel_rfl
def mS:Bool×List (List Nat×List Nat):=(true,[([],[]),([0],[0]),([1],[1]),([],[]),([3],[3]),([4],[4]),([],[]),([2,0,1,2],[2]),([5,7,0,1,2,3,4,5,7],[5]),([6,8,0,1,2,3,4,5,6,7,8],[6])])
def sB:List Nat:=[0,1,3,0,8,24,0,7,191,511]
theorem gY:gK .any (iQ Try.f140 11)=mS:=by kernel_rfl
theorem gR:eU mS.2 sB=true:=by kernel_rfl
set_option maxHeartbeats 8000000 in
set_option maxRecDepth 100000 in
theorem qQ (k:Nat) (A0:Option Addr) (c0:Nat) (l0:List Int) (r1:Int) (r2:Int) (r3:Int) (r4:Int) (r5:Int) (r6:Int) (w:World) (hr0:Kd.C (Kd.int .u8) w A0 l0.length l0) (hc0:l0.length≤c0) (h:spec_l2Three.f k l0=some (r1,r2,r3,r4,r5,r6)) :
  Calls Try.prog 140 #[.slice A0 l0.length c0] w fun e w'=>e=.returned (.tuple #[.agg #[.int .i64 r1,.int .i64 r2],.agg #[.int .i64 r3,.int .i64 r4],.agg #[.int .i64 r5,.int .i64 r6]])∧Below w.heap.size w w':=by
 have hu80:=Try.underlying80
 have HR0:=aD hr0
 have HC0:=aD hc0
 clear hr0 hc0
 have HB:=aD (Below.refl w.heap.size w)
 unfold spec_l2Three.f at h
 have H:=h
 clear h
 replace H:=fQ H
 obtain ⟨⟨t104,t105,t106⟩,A2,H⟩:=H
 try dsimp only at H
 replace H:=fQ H
 obtain ⟨⟨t108,t111,t112⟩,A3,H⟩:=H
 try dsimp only at H
 obtain ⟨c4,H⟩:=iC H
 have c4b0:=decide_eq_true c4
 have c4b1:decide (2<t108.length)=true:=decide_eq_true (by omega)
 clear c4
 replace H:=fQ H
 obtain ⟨⟨t115,t116,t117⟩,A5,H⟩:=H
 try dsimp only at H
 have HKEEP:=aD H
 clear H
 go_enter Try.func140,Try.ntmps140
 go_upto_region 5 with (first|((with_reducible refine aW (N:=2) rfl ?_);refine bS (N:=2) #[.int .i64 0,.int .i64 0] 80 ?_;intro gb101 hg w10 hbox hb;have BK101:=aD (hbox);have GW101:=aD ((cZ HB hg));have GE101:=aD ((cZ HB hg));replace HB:=aD (aE (bM HB) hb);clear hb hbox hg)|((with_reducible refine aW (N:=3) rfl ?_);refine bS (N:=3) #[.int .i64 0,.int .i64 0] 80 ?_;intro gb102 hg w11 hbox hb;have BK102:=aD (hbox);have GW102:=aD ((cZ HB hg));have GE102:=aD ((cZ HB hg));replace HB:=aD (aE (bM HB) hb);have NB101_102:=aD ((bW BK101 hg));have NB102_101:=aD ((bX BK101 hg));replace BK101:=aD (aU BK101 hb);clear hb hbox hg)|((with_reducible refine aW (N:=4) rfl ?_);refine bS (N:=4) #[.int .i64 0,.int .i64 0] 80 ?_;intro gb103 hg w12 hbox hb;have BK103:=aD (hbox);have GW103:=aD ((cZ HB hg));have GE103:=aD ((cZ HB hg));replace HB:=aD (aE (bM HB) hb);have NB101_103:=aD ((bW BK101 hg));have NB103_101:=aD ((bX BK101 hg));replace BK101:=aD (aU BK101 hb);have NB102_103:=aD ((bW BK102 hg));have NB103_102:=aD ((bX BK102 hg));replace BK102:=aD (aU BK102 hb);clear hb hbox hg)|((with_reducible refine aV (f:=99) rfl ?_);refine bK (some 9) Try.func99 #[.slice A0 l0.length c0] ?_;(with_reducible refine (fI k _ _ l0 t104 t105 t106 w _ ?side1 ?side2 ?side3 A2.out).mono ?_);(case side1=>exact bM HB);(case side2=>exact HR0.out);(case side3=>exact HC0.out);rintro e w13 ⟨g107,rfl,hi,hb,hb2⟩;refine ⟨_,rfl,?_⟩;replace HB:=aD (hb);have HI107:=aD (hi);have NB107_101:=aD (bV hi (bG (g:=gb101) (o:=.cells #[.int .i64 0,.int .i64 0] 80 (0,0)) (cF BK101) hb2) (by decide));have NB101_107:=aD (Ne.symm (bV hi (bG (g:=gb101) (o:=.cells #[.int .i64 0,.int .i64 0] 80 (0,0)) (cF BK101) hb2) (by decide)));replace BK101:=aD (bG (g:=gb101) (o:=.cells #[.int .i64 0,.int .i64 0] 80 (0,0)) (cF BK101) hb2);have NB107_102:=aD (bV hi (bG (g:=gb102) (o:=.cells #[.int .i64 0,.int .i64 0] 80 (0,0)) (cF BK102) hb2) (by decide));have NB102_107:=aD (Ne.symm (bV hi (bG (g:=gb102) (o:=.cells #[.int .i64 0,.int .i64 0] 80 (0,0)) (cF BK102) hb2) (by decide)));replace BK102:=aD (bG (g:=gb102) (o:=.cells #[.int .i64 0,.int .i64 0] 80 (0,0)) (cF BK102) hb2);have NB107_103:=aD (bV hi (bG (g:=gb103) (o:=.cells #[.int .i64 0,.int .i64 0] 80 (0,0)) (cF BK103) hb2) (by decide));have NB103_107:=aD (Ne.symm (bV hi (bG (g:=gb103) (o:=.cells #[.int .i64 0,.int .i64 0] 80 (0,0)) (cF BK103) hb2) (by decide)));replace BK103:=aD (bG (g:=gb103) (o:=.cells #[.int .i64 0,.int .i64 0] 80 (0,0)) (cF BK103) hb2);(try clear hb);(try clear hb2);(try clear hk);(try clear hi))|((with_reducible refine aV (f:=137) rfl ?_);refine bK (some 11) Try.func137 #[.pointer (some ⟨g107,0,none⟩)] ?_;(with_reducible refine (jE k g107 t104 t105 t106 t108 t111 t112 w _ ?side1 ?side2 A3.out).mono ?_);(case side1=>exact aR HI107);(case side2=>exact cM HB (aJ HI107.out));rintro e w14 ⟨v109,rfl,ho0,hi,hb,hk⟩;refine ⟨_,rfl,?_⟩;have HO110:=aD (Kd.R_lower (Kd.R_newB (Kd.R_newB (Kd.R_newB ho0 (g:=gb101) (o:=.cells #[.int .i64 0,.int .i64 0] 80 (0,0)) (cF BK101)) (g:=gb102) (o:=.cells #[.int .i64 0,.int .i64 0] 80 (0,0)) (cF BK102)) (g:=gb103) (o:=.cells #[.int .i64 0,.int .i64 0] 80 (0,0)) (cF BK103)) (aM (cM HB (aJ HI107.out))));replace BK101:=aD (dO.blk hk (g':=gb101) (o:=.cells #[.int .i64 0,.int .i64 0] 80 (0,0)) (cF BK101) NB101_107.out (by simp));replace BK102:=aD (dO.blk hk (g':=gb102) (o:=.cells #[.int .i64 0,.int .i64 0] 80 (0,0)) (cF BK102) NB102_107.out (by simp));replace BK103:=aD (dO.blk hk (g':=gb103) (o:=.cells #[.int .i64 0,.int .i64 0] 80 (0,0)) (cF BK103) NB103_107.out (by simp));replace HB:=aD (hb);replace HI107:=aD (hi);(try clear hb);(try clear hb2);(try clear hk);(try clear hi);(try clear ho0);obtain ⟨Ao15,co15,eo15⟩:=Kd.R_slice HO110.out;subst eo15;have p113:0≤(2:Int):=(by omega);have q113:2<(t108.length:Int):=dX;obtain ⟨ad113,e113,hx113_0,hx113_1⟩:=cC (Kd.R_reads' HO110.out).2.2 2 p113 q113;cases e113;(try simp only [show (2:Int).toNat=2 from rfl,Nat.reduceMul,Nat.reduceEqDiff,Go.Addr.add,↓reduceIte] at hx113_0);(try simp only [show (2:Int).toNat=2 from rfl,Nat.reduceMul,Nat.reduceEqDiff,Go.Addr.add,↓reduceIte] at hx113_1);have qi113:(2<t108.length)=True:=eq_true (by omega);(try rw [show ((2:Int)).toNat=2 from rfl] at hx113_0);(try rw [show 2*2=4 from rfl] at hx113_0);(try rw [show ((2:Int)).toNat=2 from rfl] at hx113_1);(try rw [show 2*2=4 from rfl] at hx113_1);replace p113:=eq_true p113;replace q113:=eq_true q113)|((with_reducible refine aW (N:=7) rfl ?_);refine bS (N:=7) #[.int .i64 0,.int .i64 0] 80 ?_;intro gb114 hg w16 hbox hb;replace HO110:=aD (Kd.R_below (Kd.R_elderB (bN HO110) gb114 (Nat.le_of_eq hg.symm)) hb);have BK114:=aD (hbox);have GW114:=aD ((by rw [hg];exact (aM (cM HB (aJ HI107.out))):w.heap.size≤gb114));have GE114:=aD ((by rw [hg];exact (aM (cM HB (aJ HI107.out))):w.heap.size≤gb114));replace HB:=aD (aE (cM HB (aJ HI107.out)) hb);have NB101_114:=aD ((bW BK101 hg));have NB114_101:=aD ((bX BK101 hg));replace BK101:=aD (aU BK101 hb);have NB102_114:=aD ((bW BK102 hg));have NB114_102:=aD ((bX BK102 hg));replace BK102:=aD (aU BK102 hb);have NB103_114:=aD ((bW BK103 hg));have NB114_103:=aD ((bX BK103 hg));replace BK103:=aD (aU BK103 hb);have NB107_114:=aD ((by rw [hg];exact Nat.ne_of_lt (bF (show aX w _ g107 t104 t111 t112 from aR HI107)):g107≠gb114));have NB114_107:=aD ((by rw [hg];exact Nat.ne_of_gt (bF (show aX w _ g107 t104 t111 t112 from aR HI107)):gb114≠g107));replace HI107:=aD (aX.below (aR HI107) hb);clear hb hbox hg;have hnb17:=NB114_101.out;have hnc17:=NB101_114.out;have hnb18:=NB114_102.out;have hnc18:=NB102_114.out;have hnb19:=NB114_103.out;have hnc19:=NB103_114.out;have hnb20:=NB114_107.out;have hnc20:=NB107_114.out;have hcz21_0:=aT BK114 0;have hcz21_1:=aT BK114 1;have hfz21_0:=aC BK114.out 0;have hfz21_1:=aC BK114.out 1)|((with_reducible refine aV (f:=109) rfl ?_);refine bK (some 16) Try.func109 #[.pointer (some ⟨g107,0,none⟩),.int .i64 6] ?_;(with_reducible refine (bE g107 t104 t111 t112 6 t115 t116 t117 w _ ?side1 ?side2 A5.out).mono ?_);(case side1=>exact aR HI107);(case side2=>exact cM HB (aJ HI107.out));rintro e w22 ⟨rfl,hi,hb,hk⟩;refine ⟨_,rfl,?_⟩;replace BK101:=aD (dO.blk hk (g':=gb101) (o:=.cells #[.int .i64 0,.int .i64 0] 80 (0,0)) (eW BK101) NB101_107.out (by simp));replace BK102:=aD (dO.blk hk (g':=gb102) (o:=.cells #[.int .i64 0,.int .i64 0] 80 (0,0)) (eW BK102) NB102_107.out (by simp));replace BK103:=aD (dO.blk hk (g':=gb103) (o:=.cells #[.int .i64 0,.int .i64 0] 80 (0,0)) (eW BK103) NB103_107.out (by simp));replace HO110:=aD (Kd.R_mono (Kd.R_keep (aX.apart (show aX w _ g107 t104 t111 t112 from aR HI107) (by (with_reducible repeat (first|apply fK|apply gF|apply eQ));exact (Kd.R_mono (Kd.R_far (p:=⟨gb114,1,none⟩) (Kd.R_far (p:=⟨gb114,0,none⟩) (Kd.R_mono HO110.out (fun k_ hk=>(⟨hk,hk.2⟩:_∧k_≠gb114))) (fun _ hk=>hk.2) (.int .i64 ((aA t108 2).f0))) (fun _ hk=>hk.2) (.int .i64 ((aA t108 2).f1))) (fun _ h_=>h_.1))) (by decide)) hk (fun _ h=>h.2)) (fun _ h=>h.1));replace BK114:=aD (dO.blk hk (g':=gb114) (o:=.cells #[.int .i64 ((aA t108 2).f0),.int .i64 ((aA t108 2).f1)] 80 (0,0)) (eW BK114) NB114_107.out (by simp));replace HB:=aD (hb);replace HI107:=aD (hi);(try clear hb);(try clear hb2);(try clear hk);(try clear hi)))
 have H:=HKEEP.out
 clear HKEEP
 rcases kK H with ⟨c6,H⟩|⟨c6,H⟩
 ·have c6b0:(t115==0)=true:=beq_iff_eq.mpr c6
  have c6b1:(t115 != 0)=false:=bne_eq_false_iff_eq.mpr c6
  clear c6
  obtain ⟨y118,hy118⟩:∃ y_:List Int,y_=(([1000,1001,(-1001)]:List Int)):=⟨_,rfl⟩
  first|(with_reducible replace H:=uU hy118 H)|(with_reducible replace H:=uV hy118 H)|rw [← hy118] at H
  have Ny118:=aD hy118
  clear hy118
  replace H:=fQ H
  obtain ⟨⟨t121,t122,t123⟩,A7,H⟩:=H
  try dsimp only at H
  obtain ⟨c8,H⟩:=iC H
  have c8b0:=decide_eq_true c8
  have c8b1:decide (0<t108.length)=true:=decide_eq_true (by omega)
  clear c8
  obtain ⟨c9,H⟩:=iC H
  have c9b0:=decide_eq_true c9
  have c9b1:decide (1<t108.length)=true:=decide_eq_true (by omega)
  clear c9
  simp only [Option.some.injEq,Prod.mk.injEq] at H
  obtain ⟨rfl,rfl,rfl,rfl,rfl,rfl⟩:=H
  try go_wp2_with (first|((with_reducible refine aW (N:=20) rfl ?_);refine Kd.R_lit (Kd.int .i64) _ 3 ?hg (N:=20) ?hd (xs:=([1000,1001,(-1001)]:List Int)) (inner:=[.int .i64 1000,.int .i64 1001,.int .i64 (-1001)]) (ok:=fun _=>True) (okp:=fun _=>True) ?hr ?hp (fun _ hk=>hk) trivial (Below.refl _ _) (Nat.le_refl _) (by simp) ?_;(case hd=>rfl);(case hg=>rfl);(case hr=>first|(go_simp;done)|(go_simp;rfl));(case hp=>exact (dF (show Kd.M (Kd.int .i64) _ _ _ 1000 [.int .i64 1000] from rfl) (dF (show Kd.M (Kd.int .i64) _ _ _ 1001 [.int .i64 1001] from rfl) (dF (show Kd.M (Kd.int .i64) _ _ _ (-1001) [.int .i64 (-1001)] from rfl) (iE.none _ _)))));intro v119 w23 ho24 hb hg_ hnew_;clear hg_ hnew_;(first|rw [← Ny118.out] at ho24|(simp only [Int.reduceToNat] at ho24;rw [← Ny118.out] at ho24));replace HO110:=aD (Kd.R_below (bN HO110) hb);have HO120:=aD (Kd.R_lower ho24 (aM (cM HB (aJ HI107.out))));replace BK101:=aD (aU BK101 hb);replace BK102:=aD (aU BK102 hb);replace BK103:=aD (aU BK103 hb);replace BK114:=aD (aU BK114 hb);replace HB:=aD (aE (cM HB (aJ HI107.out)) hb);replace HI107:=aD (aX.below (aR HI107) hb);clear hb ho24;obtain ⟨Ao25,co25,eo25⟩:=Kd.R_slice HO120.out;subst eo25)|((with_reducible refine aV (f:=108) rfl ?_);refine bK (some 21) Try.func108 #[.pointer (some ⟨g107,0,none⟩),.slice Ao25 y118.length co25] ?_;(with_reducible refine (dR g107 t104 t116 t117 _ _ y118 t121 t122 t123 w _ ?side1 ?side2 ?side3 ?side4 ?side5 A7.out).mono ?_);(case side1=>exact aR HI107);(case side2=>exact cM HB (aJ HI107.out));(case side3=>exact nK (Kd.R_reads' HO120.out).2.2);(case side4=>exact (Kd.R_reads' HO120.out).2.1);(case side5=>exact iZ (aY HI107.out HO120.out (by decide)));rintro e w26 ⟨rfl,hi,hb,hk⟩;refine ⟨_,rfl,?_⟩;replace BK101:=aD (dO.blk hk (g':=gb101) (o:=.cells #[.int .i64 0,.int .i64 0] 80 (0,0)) (cF BK101) NB101_107.out (by simp));replace BK102:=aD (dO.blk hk (g':=gb102) (o:=.cells #[.int .i64 0,.int .i64 0] 80 (0,0)) (cF BK102) NB102_107.out (by simp));replace BK103:=aD (dO.blk hk (g':=gb103) (o:=.cells #[.int .i64 0,.int .i64 0] 80 (0,0)) (cF BK103) NB103_107.out (by simp));replace HO110:=aD (Kd.R_mono (Kd.R_keep (aX.apart (show aX w _ g107 t104 t116 t117 from aR HI107) (bN HO110) (by decide)) hk (fun _ h=>h.2)) (fun _ h=>h.1));replace BK114:=aD (dO.blk hk (g':=gb114) (o:=.cells #[.int .i64 ((aA t108 2).f0),.int .i64 ((aA t108 2).f1)] 80 (0,0)) (cF BK114) NB114_107.out (by simp));replace HO120:=aD (Kd.R_mono (Kd.R_keep (aX.apart (show aX w _ g107 t104 t116 t117 from aR HI107) (bN HO120) (by decide)) hk (fun _ h=>h.2)) (fun _ h=>h.1));replace HB:=aD (hb);replace HI107:=aD (hi);(try clear hb);(try clear hb2);(try clear hk);(try clear hi);have hcz27_0:=aT BK114 0;have hcz27_1:=aT BK114 1;have hfz27_0:=aC BK114.out 0;have hfz27_1:=aC BK114.out 1))
  replace HO110:Aside0 (Kd.R gA 80 (w26.setCell ⟨gb114,0,none⟩ (.int .i64 t121)) w.heap.size (fun k_=>k_≠gb101∧k_≠gb102∧k_≠gb103∧k_≠gb114) (.slice (some ad113) t108.length co15) t108):=⟨by (with_reducible repeat (first|apply fK|apply gF|apply eQ));exact Kd.R_mono (Kd.R_far (p:=⟨gb114,0,none⟩) (Kd.R_mono HO110.out (fun k_ hk=>(⟨hk,hk.2⟩:_∧k_≠gb114))) (fun _ hk=>hk.2) (.int .i64 t121)) (fun _ hk=>⟨hk.1.1.1.1.2,⟨hk.1.1.1.2,⟨hk.1.1.2,hk.1.2⟩⟩⟩)⟩
  replace HO120:Aside0 (Kd.R (Kd.int .i64) 3 (w26.setCell ⟨gb114,0,none⟩ (.int .i64 t121)) w.heap.size (fun _=>True) (.slice Ao25 y118.length co25) y118):=⟨by (with_reducible repeat (first|apply fK|apply gF|apply eQ));exact Kd.R_mono (Kd.R_far (p:=⟨gb114,0,none⟩) (Kd.R_types HO120.out BK114.out (by decide)) (fun _ hk=>hk.2) (.int .i64 t121)) (fun _ hk=>trivial)⟩
  replace BK101:Aside0 ((w26.setCell ⟨gb114,0,none⟩ (.int .i64 t121)).heap[gb101]? = some (.cells #[.int .i64 0,.int .i64 0] 80 (0,0))):=⟨eW BK101⟩
  replace BK102:Aside0 ((w26.setCell ⟨gb114,0,none⟩ (.int .i64 t121)).heap[gb102]? = some (.cells #[.int .i64 0,.int .i64 0] 80 (0,0))):=⟨eW BK102⟩
  replace BK103:Aside0 ((w26.setCell ⟨gb114,0,none⟩ (.int .i64 t121)).heap[gb103]? = some (.cells #[.int .i64 0,.int .i64 0] 80 (0,0))):=⟨eW BK103⟩
  replace BK114:Aside0 ((w26.setCell ⟨gb114,0,none⟩ (.int .i64 t121)).heap[gb114]? = some (.cells #[.int .i64 t121,.int .i64 ((aA t108 2).f1)] 80 (0,0))):=⟨eW BK114⟩
  replace HB:Aside0 (Below w.heap.size w (w26.setCell ⟨gb114,0,none⟩ (.int .i64 t121))):=⟨cM HB (aJ HI107.out)⟩
  replace HI107:Aside0 (aX w (w26.setCell ⟨gb114,0,none⟩ (.int .i64 t121)) g107 t104 t122 t123):=⟨aR HI107⟩
  generalize (w26.setCell ⟨gb114,0,none⟩ (.int .i64 t121))=w28 at HO110 HO120 BK101 BK102 BK103 BK114 HI107 HB ⊢
  replace HO110:=aD (eQ HO110.out)
  replace HO120:=aD (eQ HO120.out)
  replace BK101:=aD (aK BK101.out)
  replace BK102:=aD (aK BK102.out)
  replace BK103:=aD (aK BK103.out)
  replace BK114:=aD (aK BK114.out)
  replace HI107:=aD (aX.drew HI107.out)
  replace HB:=aD (lC HB.out)
  have p124:0≤(0:Int):=(by omega)
  have q124:0<(t108.length:Int):=dX
  obtain ⟨ad124,e124,hx124_0,hx124_1⟩:=cC (Kd.R_reads' HO110.out).2.2 0 p124 q124
  obtain rfl:ad113=ad124:=(by injection e124)
  have qi124:(0<t108.length)=True:=eq_true (by omega)
  (try rw [show ((0:Int)).toNat=0 from rfl] at hx124_0)
  (try rw [show 0*2=0 from rfl] at hx124_0)
  (try rw [Addr.add_zero'] at hx124_0)
  (try rw [show ((0:Int)).toNat=0 from rfl] at hx124_1)
  (try rw [show 0*2=0 from rfl] at hx124_1)
  (try rw [Addr.add_zero'] at hx124_1)
  replace p124:=eq_true p124
  replace q124:=eq_true q124
  have p125:0≤(1:Int):=(by omega)
  have q125:1<(t108.length:Int):=dX
  obtain ⟨ad125,e125,hx125_0,hx125_1⟩:=cC (Kd.R_reads' HO110.out).2.2 1 p125 q125
  obtain rfl:ad113=ad125:=(by injection e125)
  (try simp only [show (1:Int).toNat=1 from rfl,Nat.reduceMul,Nat.reduceEqDiff,Go.Addr.add,↓reduceIte] at hx125_0)
  (try simp only [show (1:Int).toNat=1 from rfl,Nat.reduceMul,Nat.reduceEqDiff,Go.Addr.add,↓reduceIte] at hx125_1)
  have qi125:(1<t108.length)=True:=eq_true (by omega)
  (try rw [show ((1:Int)).toNat=1 from rfl] at hx125_0)
  (try rw [show 1*2=2 from rfl] at hx125_0)
  (try rw [show ((1:Int)).toNat=1 from rfl] at hx125_1)
  (try rw [show 1*2=2 from rfl] at hx125_1)
  replace p125:=eq_true p125
  replace q125:=eq_true q125
  refine eE (n:=10) (S:=fun w'=>w'.cell? ⟨gb114,0,none⟩=some (.int .i64 t121)∧w'.cell? ⟨gb114,1,none⟩=some (.int .i64 ((aA t108 2).f1))∧w'.cell? ad113=some (.int .i64 ((aA t108 0).f0))∧w'.cell? ⟨ad113.block,ad113.off+1,none⟩=some (.int .i64 ((aA t108 0).f1))∧w'.cell? ⟨ad113.block,ad113.off+2,none⟩=some (.int .i64 ((aA t108 1).f0))∧w'.cell? ⟨ad113.block,ad113.off+2+1,none⟩=some (.int .i64 ((aA t108 1).f1))) (ds:=[]) (bm 10 0) (by kernel_rfl) rfl rfl ⟨aT BK114 0,aT BK114 1,hx124_0,hx124_1,hx125_0,hx125_1⟩ (fun hHeld=>?_);refine cX gY gR (fun HT_ HW_=>?_)
  generalize w28.drew=w29 at HO110 HO120 BK101 BK102 BK103 BK114 HI107 HB hx124_0 hx124_1 hx125_0 hx125_1 hHeld ⊢
  refine dG ((0,0,51,1)::(0,1,52,3)::(0,3,54,11)::(0,4,55,27)::(2,2,53,31)::(2,5,56,63)::(2,6,57,127)::[]) ?_
  iterate 7 (first|refine jT HT_ ?_|refine qB HT_ HW_ hHeld ?_)
  refine bL ?_
  refine cS (i:=7) (N:=none) (bm 10 255) rfl rfl (bI HT_.out (by kernel_rfl)) (by decide) (fun K hK=>?_)
  have hs30:w29.cell? ⟨gb101,0,none⟩=some (.int .i64 0):=aT BK101 0
  have hfs30:=aC BK101.out 0
  have hns30_1:=NB102_101.out
  have hns30_2:=NB103_101.out
  have hns30_3:=NB114_101.out
  have hms30_1:=NB101_102.out
  have hms30_2:=NB101_103.out
  have hms30_3:=NB101_114.out
  have hs31:w29.cell? ⟨gb101,1,none⟩=some (.int .i64 0):=aT BK101 1
  have hfs31:=aC BK101.out 1
  have hns31_1:=NB102_101.out
  have hns31_2:=NB103_101.out
  have hns31_3:=NB114_101.out
  have hms31_1:=NB101_102.out
  have hms31_2:=NB101_103.out
  have hms31_3:=NB101_114.out
  refine fW (w1:=?_) (by rfl) rfl ?_ ?_
  rotate_left
  ·go_simp
   rfl
  refine hK.out _ _ ⟨(cU NB114_101 ((cU NB114_101 hHeld.1))),(cU NB114_101 ((cU NB114_101 hHeld.2.1))),(dT (Kd.own_blk (Kd.R_away HO110.out (fun _ hk=>hk.1))) ((dT (Kd.own_blk (Kd.R_away HO110.out (fun _ hk=>hk.1))) hHeld.2.2.1))),(dT (Kd.own_blk (Kd.R_away HO110.out (fun _ hk=>hk.1))) ((dT (Kd.own_blk (Kd.R_away HO110.out (fun _ hk=>hk.1))) hHeld.2.2.2.1))),(dT (Kd.own_blk (Kd.R_away HO110.out (fun _ hk=>hk.1))) ((dT (Kd.own_blk (Kd.R_away HO110.out (fun _ hk=>hk.1))) hHeld.2.2.2.2.1))),(dT (Kd.own_blk (Kd.R_away HO110.out (fun _ hk=>hk.1))) ((dT (Kd.own_blk (Kd.R_away HO110.out (fun _ hk=>hk.1))) hHeld.2.2.2.2.2)))⟩ (fun hHeld=>?_)
  clear hK K
  refine cS (i:=8) (N:=none) (bm 10 511) rfl rfl (bI HT_.out (by kernel_rfl)) (by decide) (fun K hK=>?_)
  have hs32:w29.cell? ⟨gb102,0,none⟩=some (.int .i64 0):=aT BK102 0
  have hfs32:=aC BK102.out 0
  have hns32_0:=NB101_102.out
  have hns32_2:=NB103_102.out
  have hns32_3:=NB114_102.out
  have hms32_0:=NB102_101.out
  have hms32_2:=NB102_103.out
  have hms32_3:=NB102_114.out
  have hs33:w29.cell? ⟨gb102,1,none⟩=some (.int .i64 0):=aT BK102 1
  have hfs33:=aC BK102.out 1
  have hns33_0:=NB101_102.out
  have hns33_2:=NB103_102.out
  have hns33_3:=NB114_102.out
  have hms33_0:=NB102_101.out
  have hms33_2:=NB102_103.out
  have hms33_3:=NB102_114.out
  refine fW (w1:=?_) (by rfl) rfl ?_ ?_
  rotate_left
  ·go_simp
   rfl
  refine hK.out _ _ ⟨(cU NB114_102 ((cU NB114_102 hHeld.1))),(cU NB114_102 ((cU NB114_102 hHeld.2.1))),(dT (Kd.own_blk (Kd.R_away HO110.out (fun _ hk=>hk.2.1))) ((dT (Kd.own_blk (Kd.R_away HO110.out (fun _ hk=>hk.2.1))) hHeld.2.2.1))),(dT (Kd.own_blk (Kd.R_away HO110.out (fun _ hk=>hk.2.1))) ((dT (Kd.own_blk (Kd.R_away HO110.out (fun _ hk=>hk.2.1))) hHeld.2.2.2.1))),(dT (Kd.own_blk (Kd.R_away HO110.out (fun _ hk=>hk.2.1))) ((dT (Kd.own_blk (Kd.R_away HO110.out (fun _ hk=>hk.2.1))) hHeld.2.2.2.2.1))),(dT (Kd.own_blk (Kd.R_away HO110.out (fun _ hk=>hk.2.1))) ((dT (Kd.own_blk (Kd.R_away HO110.out (fun _ hk=>hk.2.1))) hHeld.2.2.2.2.2)))⟩ (fun hHeld=>?_)
  clear hK K
  refine cS (i:=9) (N:=none) (bm 10 1023) rfl rfl (bI HT_.out (by kernel_rfl)) (by decide) (fun K hK=>?_)
  have hs34:w29.cell? ⟨gb103,0,none⟩=some (.int .i64 0):=aT BK103 0
  have hfs34:=aC BK103.out 0
  have hns34_0:=NB101_103.out
  have hns34_1:=NB102_103.out
  have hns34_3:=NB114_103.out
  have hms34_0:=NB103_101.out
  have hms34_1:=NB103_102.out
  have hms34_3:=NB103_114.out
  have hs35:w29.cell? ⟨gb103,1,none⟩=some (.int .i64 0):=aT BK103 1
  have hfs35:=aC BK103.out 1
  have hns35_0:=NB101_103.out
  have hns35_1:=NB102_103.out
  have hns35_3:=NB114_103.out
  have hms35_0:=NB103_101.out
  have hms35_1:=NB103_102.out
  have hms35_3:=NB103_114.out
  refine fW (w1:=?_) (by rfl) rfl ?_ ?_
  rotate_left
  ·go_simp
   rfl
  refine hK.out _ _ ⟨(cU NB114_103 ((cU NB114_103 hHeld.1))),(cU NB114_103 ((cU NB114_103 hHeld.2.1))),(dT (Kd.own_blk (Kd.R_away HO110.out (fun _ hk=>hk.2.2.1))) ((dT (Kd.own_blk (Kd.R_away HO110.out (fun _ hk=>hk.2.2.1))) hHeld.2.2.1))),(dT (Kd.own_blk (Kd.R_away HO110.out (fun _ hk=>hk.2.2.1))) ((dT (Kd.own_blk (Kd.R_away HO110.out (fun _ hk=>hk.2.2.1))) hHeld.2.2.2.1))),(dT (Kd.own_blk (Kd.R_away HO110.out (fun _ hk=>hk.2.2.1))) ((dT (Kd.own_blk (Kd.R_away HO110.out (fun _ hk=>hk.2.2.1))) hHeld.2.2.2.2.1))),(dT (Kd.own_blk (Kd.R_away HO110.out (fun _ hk=>hk.2.2.1))) ((dT (Kd.own_blk (Kd.R_away HO110.out (fun _ hk=>hk.2.2.1))) hHeld.2.2.2.2.2)))⟩ (fun hHeld=>?_)
  clear hK K
  refine dD (dZ HT_.out (by kernel_rfl)) ?_
  try go_wp2
  refine bodyPost_ret (iI (rs:=[.cell 2 80,.cell 3 80,.cell 4 80]) rfl (by simp) (.cell gb101 80 #[.int .i64 ((aA t108 0).f0),.int .i64 ((aA t108 0).f1)] (0,0) _ rfl (eW BK101) Try.underlying80 rfl (by kernel_rfl) (.cell gb102 80 #[.int .i64 ((aA t108 1).f0),.int .i64 ((aA t108 1).f1)] (0,0) _ rfl (by (with_reducible repeat (first|refine aQ ?_ _|refine aK ?_|refine aN ?_ _));refine bD ?_ NB102_103.out _;(with_reducible repeat (first|refine aQ ?_ _|refine aK ?_|refine aN ?_ _));refine bD ?_ NB102_103.out _;(with_reducible repeat (first|refine aQ ?_ _|refine aK ?_|refine aN ?_ _));refine cJ (cs:=#[.int .i64 ((aA t108 1).f0),.int .i64 0]) ?_ 1 _ rfl;(with_reducible repeat (first|refine aQ ?_ _|refine aK ?_|refine aN ?_ _));refine cJ (cs:=#[.int .i64 0,.int .i64 0]) ?_ 0 _ rfl;(with_reducible repeat (first|refine aQ ?_ _|refine aK ?_|refine aN ?_ _));refine bD ?_ NB102_101.out _;(with_reducible repeat (first|refine aQ ?_ _|refine aK ?_|refine aN ?_ _));refine bD ?_ NB102_101.out _;(with_reducible repeat (first|refine aQ ?_ _|refine aK ?_|refine aN ?_ _));exact BK102.out) Try.underlying80 rfl (by kernel_rfl) (.cell gb103 80 #[.int .i64 t121,.int .i64 ((aA t108 2).f1)] (0,0) _ rfl (by (with_reducible repeat (first|refine aQ ?_ _|refine aK ?_|refine aN ?_ _));refine cJ (cs:=#[.int .i64 t121,.int .i64 0]) ?_ 1 _ rfl;(with_reducible repeat (first|refine aQ ?_ _|refine aK ?_|refine aN ?_ _));refine cJ (cs:=#[.int .i64 0,.int .i64 0]) ?_ 0 _ rfl;(with_reducible repeat (first|refine aQ ?_ _|refine aK ?_|refine aN ?_ _));refine bD ?_ NB103_102.out _;(with_reducible repeat (first|refine aQ ?_ _|refine aK ?_|refine aN ?_ _));refine bD ?_ NB103_102.out _;(with_reducible repeat (first|refine aQ ?_ _|refine aK ?_|refine aN ?_ _));refine bD ?_ NB103_101.out _;(with_reducible repeat (first|refine aQ ?_ _|refine aK ?_|refine aN ?_ _));refine bD ?_ NB103_101.out _;(with_reducible repeat (first|refine aQ ?_ _|refine aK ?_|refine aN ?_ _));exact BK103.out) Try.underlying80 rfl (by kernel_rfl) .nil)))) rfl ?_
  exact ⟨dA,cM HB (aJ HI107.out)⟩
 ·have c6b0:(t115==0)=false:=beq_eq_false_iff_ne.mpr c6
  have c6b1:(t115 != 0)=true:=bne_iff_ne.mpr c6
  rcases kK H with ⟨c36,H⟩|⟨c36,H⟩
  ·have c36b0:(t115==1)=true:=beq_iff_eq.mpr c36
   have c36b1:(t115 != 1)=false:=bne_eq_false_iff_eq.mpr c36
   clear c36
   obtain ⟨c37,H⟩:=iC H
   have c37b0:=decide_eq_true c37
   have c37b1:decide (0<t108.length)=true:=decide_eq_true (by omega)
   clear c37
   obtain ⟨c38,H⟩:=iC H
   have c38b0:=decide_eq_true c38
   have c38b1:decide (1<t108.length)=true:=decide_eq_true (by omega)
   clear c38
   simp only [Option.some.injEq,Prod.mk.injEq] at H
   obtain ⟨rfl,rfl,rfl,rfl,rfl,rfl⟩:=H
   have p126:0≤(0:Int):=(by omega)
   have q126:0<(t108.length:Int):=dX
   obtain ⟨ad126,e126,hx126_0,hx126_1⟩:=cC (Kd.R_reads' HO110.out).2.2 0 p126 q126
   obtain rfl:ad113=ad126:=(by injection e126)
   have qi126:(0<t108.length)=True:=eq_true (by omega)
   (try rw [show ((0:Int)).toNat=0 from rfl] at hx126_0)
   (try rw [show 0*2=0 from rfl] at hx126_0)
   (try rw [Addr.add_zero'] at hx126_0)
   (try rw [show ((0:Int)).toNat=0 from rfl] at hx126_1)
   (try rw [show 0*2=0 from rfl] at hx126_1)
   (try rw [Addr.add_zero'] at hx126_1)
   replace p126:=eq_true p126
   replace q126:=eq_true q126
   have hcz52_0:=aT BK114 0
   have hcz52_1:=aT BK114 1
   have hfz52_0:=aC BK114.out 0
   have hfz52_1:=aC BK114.out 1
   try go_wp2
   replace HO110:Aside0 (Kd.R gA 80 ((w22.setCell ⟨gb114,0,none⟩ (.int .i64 ((aA t108 0).f0))).setCell ⟨gb114,1,none⟩ (.int .i64 ((aA t108 0).f1))) w.heap.size (fun k_=>k_≠gb101∧k_≠gb102∧k_≠gb103∧k_≠gb114) (.slice (some ad113) t108.length co15) t108):=⟨by (with_reducible repeat (first|apply fK|apply gF|apply eQ));exact Kd.R_mono (Kd.R_far (p:=⟨gb114,1,none⟩) (Kd.R_far (p:=⟨gb114,0,none⟩) (Kd.R_mono HO110.out (fun k_ hk=>(⟨hk,hk.2⟩:_∧k_≠gb114))) (fun _ hk=>hk.2) (.int .i64 ((aA t108 0).f0))) (fun _ hk=>hk.2) (.int .i64 ((aA t108 0).f1))) (fun _ hk=>⟨hk.1.1.1.1.2,⟨hk.1.1.1.2,⟨hk.1.1.2,hk.1.2⟩⟩⟩)⟩
   replace BK101:Aside0 (((w22.setCell ⟨gb114,0,none⟩ (.int .i64 ((aA t108 0).f0))).setCell ⟨gb114,1,none⟩ (.int .i64 ((aA t108 0).f1))).heap[gb101]? = some (.cells #[.int .i64 0,.int .i64 0] 80 (0,0))):=⟨eW BK101⟩
   replace BK102:Aside0 (((w22.setCell ⟨gb114,0,none⟩ (.int .i64 ((aA t108 0).f0))).setCell ⟨gb114,1,none⟩ (.int .i64 ((aA t108 0).f1))).heap[gb102]? = some (.cells #[.int .i64 0,.int .i64 0] 80 (0,0))):=⟨eW BK102⟩
   replace BK103:Aside0 (((w22.setCell ⟨gb114,0,none⟩ (.int .i64 ((aA t108 0).f0))).setCell ⟨gb114,1,none⟩ (.int .i64 ((aA t108 0).f1))).heap[gb103]? = some (.cells #[.int .i64 0,.int .i64 0] 80 (0,0))):=⟨eW BK103⟩
   replace BK114:Aside0 (((w22.setCell ⟨gb114,0,none⟩ (.int .i64 ((aA t108 0).f0))).setCell ⟨gb114,1,none⟩ (.int .i64 ((aA t108 0).f1))).heap[gb114]? = some (.cells #[.int .i64 ((aA t108 0).f0),.int .i64 ((aA t108 0).f1)] 80 (0,0))):=⟨eW BK114⟩
   replace HB:Aside0 (Below w.heap.size w ((w22.setCell ⟨gb114,0,none⟩ (.int .i64 ((aA t108 0).f0))).setCell ⟨gb114,1,none⟩ (.int .i64 ((aA t108 0).f1)))):=⟨cM HB (aJ HI107.out)⟩
   replace HI107:Aside0 (aX w ((w22.setCell ⟨gb114,0,none⟩ (.int .i64 ((aA t108 0).f0))).setCell ⟨gb114,1,none⟩ (.int .i64 ((aA t108 0).f1))) g107 t104 t116 t117):=⟨aR HI107⟩
   generalize ((w22.setCell ⟨gb114,0,none⟩ (.int .i64 ((aA t108 0).f0))).setCell ⟨gb114,1,none⟩ (.int .i64 ((aA t108 0).f1)))=w53 at HO110 BK101 BK102 BK103 BK114 HI107 HB ⊢
   replace HO110:=aD (eQ HO110.out)
   replace BK101:=aD (aK BK101.out)
   replace BK102:=aD (aK BK102.out)
   replace BK103:=aD (aK BK103.out)
   replace BK114:=aD (aK BK114.out)
   replace HI107:=aD (aX.drew HI107.out)
   replace HB:=aD (lC HB.out)
   have p127:0≤(0:Int):=(by omega)
   have q127:0<(t108.length:Int):=dX
   obtain ⟨ad127,e127,hx127_0,hx127_1⟩:=cC (Kd.R_reads' HO110.out).2.2 0 p127 q127
   obtain rfl:ad113=ad127:=(by injection e127)
   have qi127:(0<t108.length)=True:=eq_true (by omega)
   (try rw [show ((0:Int)).toNat=0 from rfl] at hx127_0)
   (try rw [show 0*2=0 from rfl] at hx127_0)
   (try rw [Addr.add_zero'] at hx127_0)
   (try rw [show ((0:Int)).toNat=0 from rfl] at hx127_1)
   (try rw [show 0*2=0 from rfl] at hx127_1)
   (try rw [Addr.add_zero'] at hx127_1)
   replace p127:=eq_true p127
   replace q127:=eq_true q127
   have p128:0≤(1:Int):=(by omega)
   have q128:1<(t108.length:Int):=dX
   obtain ⟨ad128,e128,hx128_0,hx128_1⟩:=cC (Kd.R_reads' HO110.out).2.2 1 p128 q128
   obtain rfl:ad113=ad128:=(by injection e128)
   (try simp only [show (1:Int).toNat=1 from rfl,Nat.reduceMul,Nat.reduceEqDiff,Go.Addr.add,↓reduceIte] at hx128_0)
   (try simp only [show (1:Int).toNat=1 from rfl,Nat.reduceMul,Nat.reduceEqDiff,Go.Addr.add,↓reduceIte] at hx128_1)
   have qi128:(1<t108.length)=True:=eq_true (by omega)
   (try rw [show ((1:Int)).toNat=1 from rfl] at hx128_0)
   (try rw [show 1*2=2 from rfl] at hx128_0)
   (try rw [show ((1:Int)).toNat=1 from rfl] at hx128_1)
   (try rw [show 1*2=2 from rfl] at hx128_1)
   replace p128:=eq_true p128
   replace q128:=eq_true q128
   refine eE (n:=10) (S:=fun w'=>w'.cell? ⟨gb114,0,none⟩=some (.int .i64 ((aA t108 0).f0))∧w'.cell? ⟨gb114,1,none⟩=some (.int .i64 ((aA t108 0).f1))∧w'.cell? ad113=some (.int .i64 ((aA t108 0).f0))∧w'.cell? ⟨ad113.block,ad113.off+1,none⟩=some (.int .i64 ((aA t108 0).f1))∧w'.cell? ⟨ad113.block,ad113.off+2,none⟩=some (.int .i64 ((aA t108 1).f0))∧w'.cell? ⟨ad113.block,ad113.off+2+1,none⟩=some (.int .i64 ((aA t108 1).f1))) (ds:=[]) (bm 10 0) (by kernel_rfl) rfl rfl ⟨aT BK114 0,aT BK114 1,hx127_0,hx127_1,hx128_0,hx128_1⟩ (fun hHeld=>?_);refine cX gY gR (fun HT_ HW_=>?_)
   generalize w53.drew=w54 at HO110 BK101 BK102 BK103 BK114 HI107 HB hx127_0 hx127_1 hx128_0 hx128_1 hHeld ⊢
   refine dG ((0,0,51,1)::(0,1,52,3)::(0,3,54,11)::(0,4,55,27)::(2,2,53,31)::(2,5,56,63)::(2,6,57,127)::[]) ?_
   iterate 7 (first|refine jT HT_ ?_|refine qB HT_ HW_ hHeld ?_)
   refine bL ?_
   refine cS (i:=7) (N:=none) (bm 10 255) rfl rfl (bI HT_.out (by kernel_rfl)) (by decide) (fun K hK=>?_)
   have hs55:w54.cell? ⟨gb101,0,none⟩=some (.int .i64 0):=aT BK101 0
   have hfs55:=aC BK101.out 0
   have hns55_1:=NB102_101.out
   have hns55_2:=NB103_101.out
   have hns55_3:=NB114_101.out
   have hms55_1:=NB101_102.out
   have hms55_2:=NB101_103.out
   have hms55_3:=NB101_114.out
   have hs56:w54.cell? ⟨gb101,1,none⟩=some (.int .i64 0):=aT BK101 1
   have hfs56:=aC BK101.out 1
   have hns56_1:=NB102_101.out
   have hns56_2:=NB103_101.out
   have hns56_3:=NB114_101.out
   have hms56_1:=NB101_102.out
   have hms56_2:=NB101_103.out
   have hms56_3:=NB101_114.out
   refine fW (w1:=?_) (by rfl) rfl ?_ ?_
   rotate_left
   ·go_simp
    rfl
   refine hK.out _ _ ⟨(cU NB114_101 ((cU NB114_101 hHeld.1))),(cU NB114_101 ((cU NB114_101 hHeld.2.1))),(dT (Kd.own_blk (Kd.R_away HO110.out (fun _ hk=>hk.1))) ((dT (Kd.own_blk (Kd.R_away HO110.out (fun _ hk=>hk.1))) hHeld.2.2.1))),(dT (Kd.own_blk (Kd.R_away HO110.out (fun _ hk=>hk.1))) ((dT (Kd.own_blk (Kd.R_away HO110.out (fun _ hk=>hk.1))) hHeld.2.2.2.1))),(dT (Kd.own_blk (Kd.R_away HO110.out (fun _ hk=>hk.1))) ((dT (Kd.own_blk (Kd.R_away HO110.out (fun _ hk=>hk.1))) hHeld.2.2.2.2.1))),(dT (Kd.own_blk (Kd.R_away HO110.out (fun _ hk=>hk.1))) ((dT (Kd.own_blk (Kd.R_away HO110.out (fun _ hk=>hk.1))) hHeld.2.2.2.2.2)))⟩ (fun hHeld=>?_)
   clear hK K
   refine cS (i:=8) (N:=none) (bm 10 511) rfl rfl (bI HT_.out (by kernel_rfl)) (by decide) (fun K hK=>?_)
   have hs57:w54.cell? ⟨gb102,0,none⟩=some (.int .i64 0):=aT BK102 0
   have hfs57:=aC BK102.out 0
   have hns57_0:=NB101_102.out
   have hns57_2:=NB103_102.out
   have hns57_3:=NB114_102.out
   have hms57_0:=NB102_101.out
   have hms57_2:=NB102_103.out
   have hms57_3:=NB102_114.out
   have hs58:w54.cell? ⟨gb102,1,none⟩=some (.int .i64 0):=aT BK102 1
   have hfs58:=aC BK102.out 1
   have hns58_0:=NB101_102.out
   have hns58_2:=NB103_102.out
   have hns58_3:=NB114_102.out
   have hms58_0:=NB102_101.out
   have hms58_2:=NB102_103.out
   have hms58_3:=NB102_114.out
   refine fW (w1:=?_) (by rfl) rfl ?_ ?_
   rotate_left
   ·go_simp
    rfl
   refine hK.out _ _ ⟨(cU NB114_102 ((cU NB114_102 hHeld.1))),(cU NB114_102 ((cU NB114_102 hHeld.2.1))),(dT (Kd.own_blk (Kd.R_away HO110.out (fun _ hk=>hk.2.1))) ((dT (Kd.own_blk (Kd.R_away HO110.out (fun _ hk=>hk.2.1))) hHeld.2.2.1))),(dT (Kd.own_blk (Kd.R_away HO110.out (fun _ hk=>hk.2.1))) ((dT (Kd.own_blk (Kd.R_away HO110.out (fun _ hk=>hk.2.1))) hHeld.2.2.2.1))),(dT (Kd.own_blk (Kd.R_away HO110.out (fun _ hk=>hk.2.1))) ((dT (Kd.own_blk (Kd.R_away HO110.out (fun _ hk=>hk.2.1))) hHeld.2.2.2.2.1))),(dT (Kd.own_blk (Kd.R_away HO110.out (fun _ hk=>hk.2.1))) ((dT (Kd.own_blk (Kd.R_away HO110.out (fun _ hk=>hk.2.1))) hHeld.2.2.2.2.2)))⟩ (fun hHeld=>?_)
   clear hK K
   refine cS (i:=9) (N:=none) (bm 10 1023) rfl rfl (bI HT_.out (by kernel_rfl)) (by decide) (fun K hK=>?_)
   have hs59:w54.cell? ⟨gb103,0,none⟩=some (.int .i64 0):=aT BK103 0
   have hfs59:=aC BK103.out 0
   have hns59_0:=NB101_103.out
   have hns59_1:=NB102_103.out
   have hns59_3:=NB114_103.out
   have hms59_0:=NB103_101.out
   have hms59_1:=NB103_102.out
   have hms59_3:=NB103_114.out
   have hs60:w54.cell? ⟨gb103,1,none⟩=some (.int .i64 0):=aT BK103 1
   have hfs60:=aC BK103.out 1
   have hns60_0:=NB101_103.out
   have hns60_1:=NB102_103.out
   have hns60_3:=NB114_103.out
   have hms60_0:=NB103_101.out
   have hms60_1:=NB103_102.out
   have hms60_3:=NB103_114.out
   refine fW (w1:=?_) (by rfl) rfl ?_ ?_
   rotate_left
   ·go_simp
    rfl
   refine hK.out _ _ ⟨(cU NB114_103 ((cU NB114_103 hHeld.1))),(cU NB114_103 ((cU NB114_103 hHeld.2.1))),(dT (Kd.own_blk (Kd.R_away HO110.out (fun _ hk=>hk.2.2.1))) ((dT (Kd.own_blk (Kd.R_away HO110.out (fun _ hk=>hk.2.2.1))) hHeld.2.2.1))),(dT (Kd.own_blk (Kd.R_away HO110.out (fun _ hk=>hk.2.2.1))) ((dT (Kd.own_blk (Kd.R_away HO110.out (fun _ hk=>hk.2.2.1))) hHeld.2.2.2.1))),(dT (Kd.own_blk (Kd.R_away HO110.out (fun _ hk=>hk.2.2.1))) ((dT (Kd.own_blk (Kd.R_away HO110.out (fun _ hk=>hk.2.2.1))) hHeld.2.2.2.2.1))),(dT (Kd.own_blk (Kd.R_away HO110.out (fun _ hk=>hk.2.2.1))) ((dT (Kd.own_blk (Kd.R_away HO110.out (fun _ hk=>hk.2.2.1))) hHeld.2.2.2.2.2)))⟩ (fun hHeld=>?_)
   clear hK K
   refine dD (dZ HT_.out (by kernel_rfl)) ?_
   try go_wp2
   refine bodyPost_ret (iI (rs:=[.cell 2 80,.cell 3 80,.cell 4 80]) rfl (by simp) (.cell gb101 80 #[.int .i64 ((aA t108 0).f0),.int .i64 ((aA t108 0).f1)] (0,0) _ rfl (eW BK101) Try.underlying80 rfl (by kernel_rfl) (.cell gb102 80 #[.int .i64 ((aA t108 1).f0),.int .i64 ((aA t108 1).f1)] (0,0) _ rfl (by (with_reducible repeat (first|refine aQ ?_ _|refine aK ?_|refine aN ?_ _));refine bD ?_ NB102_103.out _;(with_reducible repeat (first|refine aQ ?_ _|refine aK ?_|refine aN ?_ _));refine bD ?_ NB102_103.out _;(with_reducible repeat (first|refine aQ ?_ _|refine aK ?_|refine aN ?_ _));refine cJ (cs:=#[.int .i64 ((aA t108 1).f0),.int .i64 0]) ?_ 1 _ rfl;(with_reducible repeat (first|refine aQ ?_ _|refine aK ?_|refine aN ?_ _));refine cJ (cs:=#[.int .i64 0,.int .i64 0]) ?_ 0 _ rfl;(with_reducible repeat (first|refine aQ ?_ _|refine aK ?_|refine aN ?_ _));refine bD ?_ NB102_101.out _;(with_reducible repeat (first|refine aQ ?_ _|refine aK ?_|refine aN ?_ _));refine bD ?_ NB102_101.out _;(with_reducible repeat (first|refine aQ ?_ _|refine aK ?_|refine aN ?_ _));exact BK102.out) Try.underlying80 rfl (by kernel_rfl) (.cell gb103 80 #[.int .i64 ((aA t108 0).f0),.int .i64 ((aA t108 0).f1)] (0,0) _ rfl (by (with_reducible repeat (first|refine aQ ?_ _|refine aK ?_|refine aN ?_ _));refine cJ (cs:=#[.int .i64 ((aA t108 0).f0),.int .i64 0]) ?_ 1 _ rfl;(with_reducible repeat (first|refine aQ ?_ _|refine aK ?_|refine aN ?_ _));refine cJ (cs:=#[.int .i64 0,.int .i64 0]) ?_ 0 _ rfl;(with_reducible repeat (first|refine aQ ?_ _|refine aK ?_|refine aN ?_ _));refine bD ?_ NB103_102.out _;(with_reducible repeat (first|refine aQ ?_ _|refine aK ?_|refine aN ?_ _));refine bD ?_ NB103_102.out _;(with_reducible repeat (first|refine aQ ?_ _|refine aK ?_|refine aN ?_ _));refine bD ?_ NB103_101.out _;(with_reducible repeat (first|refine aQ ?_ _|refine aK ?_|refine aN ?_ _));refine bD ?_ NB103_101.out _;(with_reducible repeat (first|refine aQ ?_ _|refine aK ?_|refine aN ?_ _));exact BK103.out) Try.underlying80 rfl (by kernel_rfl) .nil)))) rfl ?_
   exact ⟨dA,cM HB (aJ HI107.out)⟩
  ·have c36b0:(t115==1)=false:=beq_eq_false_iff_ne.mpr c36
   have c36b1:(t115 != 1)=true:=bne_iff_ne.mpr c36
   rcases kK H with ⟨c61,H⟩|⟨c61,H⟩
   ·have c61b0:(t115==2)=true:=beq_iff_eq.mpr c61
    have c61b1:(t115 != 2)=false:=bne_eq_false_iff_eq.mpr c61
    clear c61
    obtain ⟨c62,H⟩:=iC H
    have c62b0:=decide_eq_true c62
    have c62b1:decide (1<t108.length)=true:=decide_eq_true (by omega)
    clear c62
    obtain ⟨c63,H⟩:=iC H
    have c63b0:=decide_eq_true c63
    have c63b1:decide (0<t108.length)=true:=decide_eq_true (by omega)
    clear c63
    simp only [Option.some.injEq,Prod.mk.injEq] at H
    obtain ⟨rfl,rfl,rfl,rfl,rfl,rfl⟩:=H
    try go_wp2
    replace HO110:=aD (eQ HO110.out)
    replace BK101:=aD (aK BK101.out)
    replace BK102:=aD (aK BK102.out)
    replace BK103:=aD (aK BK103.out)
    replace BK114:=aD (aK BK114.out)
    replace HI107:=aD (aX.drew HI107.out)
    replace HB:=aD (lC HB.out)
    have p129:0≤(1:Int):=(by omega)
    have q129:1<(t108.length:Int):=dX
    obtain ⟨ad129,e129,hx129_0,hx129_1⟩:=cC (Kd.R_reads' HO110.out).2.2 1 p129 q129
    obtain rfl:ad113=ad129:=(by injection e129)
    (try simp only [show (1:Int).toNat=1 from rfl,Nat.reduceMul,Nat.reduceEqDiff,Go.Addr.add,↓reduceIte] at hx129_0)
    (try simp only [show (1:Int).toNat=1 from rfl,Nat.reduceMul,Nat.reduceEqDiff,Go.Addr.add,↓reduceIte] at hx129_1)
    have qi129:(1<t108.length)=True:=eq_true (by omega)
    (try rw [show ((1:Int)).toNat=1 from rfl] at hx129_0)
    (try rw [show 1*2=2 from rfl] at hx129_0)
    (try rw [show ((1:Int)).toNat=1 from rfl] at hx129_1)
    (try rw [show 1*2=2 from rfl] at hx129_1)
    replace p129:=eq_true p129
    replace q129:=eq_true q129
    have p130:0≤(0:Int):=(by omega)
    have q130:0<(t108.length:Int):=dX
    obtain ⟨ad130,e130,hx130_0,hx130_1⟩:=cC (Kd.R_reads' HO110.out).2.2 0 p130 q130
    obtain rfl:ad113=ad130:=(by injection e130)
    have qi130:(0<t108.length)=True:=eq_true (by omega)
    (try rw [show ((0:Int)).toNat=0 from rfl] at hx130_0)
    (try rw [show 0*2=0 from rfl] at hx130_0)
    (try rw [Addr.add_zero'] at hx130_0)
    (try rw [show ((0:Int)).toNat=0 from rfl] at hx130_1)
    (try rw [show 0*2=0 from rfl] at hx130_1)
    (try rw [Addr.add_zero'] at hx130_1)
    replace p130:=eq_true p130
    replace q130:=eq_true q130
    have p131:0≤(1:Int):=(by omega)
    have q131:1<(t108.length:Int):=dX
    obtain ⟨ad131,e131,hx131_0,hx131_1⟩:=cC (Kd.R_reads' HO110.out).2.2 1 p131 q131
    obtain rfl:ad113=ad131:=(by injection e131)
    (try simp only [show (1:Int).toNat=1 from rfl,Nat.reduceMul,Nat.reduceEqDiff,Go.Addr.add,↓reduceIte] at hx131_0)
    (try simp only [show (1:Int).toNat=1 from rfl,Nat.reduceMul,Nat.reduceEqDiff,Go.Addr.add,↓reduceIte] at hx131_1)
    have qi131:(1<t108.length)=True:=eq_true (by omega)
    (try rw [show ((1:Int)).toNat=1 from rfl] at hx131_0)
    (try rw [show 1*2=2 from rfl] at hx131_0)
    (try rw [show ((1:Int)).toNat=1 from rfl] at hx131_1)
    (try rw [show 1*2=2 from rfl] at hx131_1)
    replace p131:=eq_true p131
    replace q131:=eq_true q131
    have p132:0≤(0:Int):=(by omega)
    have q132:0<(t108.length:Int):=dX
    obtain ⟨ad132,e132,hx132_0,hx132_1⟩:=cC (Kd.R_reads' HO110.out).2.2 0 p132 q132
    obtain rfl:ad113=ad132:=(by injection e132)
    have qi132:(0<t108.length)=True:=eq_true (by omega)
    (try rw [show ((0:Int)).toNat=0 from rfl] at hx132_0)
    (try rw [show 0*2=0 from rfl] at hx132_0)
    (try rw [Addr.add_zero'] at hx132_0)
    (try rw [show ((0:Int)).toNat=0 from rfl] at hx132_1)
    (try rw [show 0*2=0 from rfl] at hx132_1)
    (try rw [Addr.add_zero'] at hx132_1)
    replace p132:=eq_true p132
    replace q132:=eq_true q132
    refine eE (n:=22) (S:=fun w'=>w'.cell? ⟨ad113.block,ad113.off+2,none⟩=some (.int .i64 ((aA t108 1).f0))∧w'.cell? ⟨ad113.block,ad113.off+2+1,none⟩=some (.int .i64 ((aA t108 1).f1))∧w'.cell? ad113=some (.int .i64 ((aA t108 0).f0))∧w'.cell? ⟨ad113.block,ad113.off+1,none⟩=some (.int .i64 ((aA t108 0).f1))∧w'.cell? ⟨ad113.block,ad113.off+2,none⟩=some (.int .i64 ((aA t108 1).f0))∧w'.cell? ⟨ad113.block,ad113.off+2+1,none⟩=some (.int .i64 ((aA t108 1).f1))∧w'.cell? ad113=some (.int .i64 ((aA t108 0).f0))∧w'.cell? ⟨ad113.block,ad113.off+1,none⟩=some (.int .i64 ((aA t108 0).f1))) (ds:=[]) (bm 22 0) (by kernel_rfl) rfl rfl ⟨hx129_0,hx129_1,hx130_0,hx130_1,hx131_0,hx131_1,hx132_0,hx132_1⟩ (fun hHeld=>?_);refine cX qP pT (fun HT_ HW_=>?_)
    generalize w22.drew=w77 at HO110 BK101 BK102 BK103 BK114 HI107 HB hx129_0 hx129_1 hx130_0 hx130_1 hx131_0 hx131_1 hx132_0 hx132_1 hHeld ⊢
    refine dG ((0,0,30,1)::(0,1,31,3)::(0,2,32,7)::(0,5,35,39)::(0,6,36,103)::(0,7,37,231)::(0,10,40,1255)::(0,11,41,3303)::(0,12,42,7399)::(0,15,45,40167)::(0,16,46,105703)::(0,17,47,236775)::(2,3,33,236783)::(0,4,34,236799)::(2,8,38,237055)::(0,9,39,237567)::(2,13,43,245759)::(0,14,44,262143)::(2,18,48,524287)::(0,19,49,1048575)::(0,20,50,2097151)::[]) ?_
    iterate 21 (first|refine jT HT_ ?_|refine qB HT_ HW_ hHeld ?_)
    refine bL ?_
    refine cS (i:=21) (N:=none) (bm 22 4194303) rfl rfl (bI HT_.out (by kernel_rfl)) (by decide) (fun K hK=>?_)
    have hs78:w77.cell? ⟨gb114,0,none⟩=some (.int .i64 ((aA t108 2).f0)):=aT BK114 0
    have hfs78:=aC BK114.out 0
    have hns78_0:=NB101_114.out
    have hns78_1:=NB102_114.out
    have hns78_2:=NB103_114.out
    have hms78_0:=NB114_101.out
    have hms78_1:=NB114_102.out
    have hms78_2:=NB114_103.out
    have hs79:w77.cell? ⟨gb114,1,none⟩=some (.int .i64 ((aA t108 2).f1)):=aT BK114 1
    have hfs79:=aC BK114.out 1
    have hns79_0:=NB101_114.out
    have hns79_1:=NB102_114.out
    have hns79_2:=NB103_114.out
    have hms79_0:=NB114_101.out
    have hms79_1:=NB114_102.out
    have hms79_2:=NB114_103.out
    refine fW (w1:=?_) (by rfl) rfl ?_ ?_
    rotate_left
    ·go_simp
     rfl
    refine hK.out _ _ ⟨(dT (Kd.own_blk (Kd.R_away HO110.out (fun _ hk=>hk.2))) ((dT (Kd.own_blk (Kd.R_away HO110.out (fun _ hk=>hk.2))) hHeld.1))),(dT (Kd.own_blk (Kd.R_away HO110.out (fun _ hk=>hk.2))) ((dT (Kd.own_blk (Kd.R_away HO110.out (fun _ hk=>hk.2))) hHeld.2.1))),(dT (Kd.own_blk (Kd.R_away HO110.out (fun _ hk=>hk.2))) ((dT (Kd.own_blk (Kd.R_away HO110.out (fun _ hk=>hk.2))) hHeld.2.2.1))),(dT (Kd.own_blk (Kd.R_away HO110.out (fun _ hk=>hk.2))) ((dT (Kd.own_blk (Kd.R_away HO110.out (fun _ hk=>hk.2))) hHeld.2.2.2.1))),(dT (Kd.own_blk (Kd.R_away HO110.out (fun _ hk=>hk.2))) ((dT (Kd.own_blk (Kd.R_away HO110.out (fun _ hk=>hk.2))) hHeld.2.2.2.2.1))),(dT (Kd.own_blk (Kd.R_away HO110.out (fun _ hk=>hk.2))) ((dT (Kd.own_blk (Kd.R_away HO110.out (fun _ hk=>hk.2))) hHeld.2.2.2.2.2.1))),(dT (Kd.own_blk (Kd.R_away HO110.out (fun _ hk=>hk.2))) ((dT (Kd.own_blk (Kd.R_away HO110.out (fun _ hk=>hk.2))) hHeld.2.2.2.2.2.2.1))),(dT (Kd.own_blk (Kd.R_away HO110.out (fun _ hk=>hk.2))) ((dT (Kd.own_blk (Kd.R_away HO110.out (fun _ hk=>hk.2))) hHeld.2.2.2.2.2.2.2)))⟩ (fun hHeld=>?_)
    clear hK K
    refine dD (dZ HT_.out (by kernel_rfl)) ?_
    try go_wp2
    replace HO110:Aside0 (Kd.R gA 80 ((w77.setCell ⟨gb114,0,none⟩ (.int .i64 (wrap64 ((wrap64 (2*((aA t108 1).f0)))-((aA t108 0).f0))))).setCell ⟨gb114,1,none⟩ (.int .i64 (wrap64 ((wrap64 (2*((aA t108 1).f1)))-((aA t108 0).f1))))) w.heap.size (fun k_=>k_≠gb101∧k_≠gb102∧k_≠gb103∧k_≠gb114) (.slice (some ad113) t108.length co15) t108):=⟨by (with_reducible repeat (first|apply fK|apply gF|apply eQ));exact Kd.R_mono (Kd.R_far (p:=⟨gb114,1,none⟩) (Kd.R_far (p:=⟨gb114,0,none⟩) (Kd.R_mono HO110.out (fun k_ hk=>(⟨hk,hk.2⟩:_∧k_≠gb114))) (fun _ hk=>hk.2) (.int .i64 (wrap64 ((wrap64 (2*((aA t108 1).f0)))-((aA t108 0).f0))))) (fun _ hk=>hk.2) (.int .i64 (wrap64 ((wrap64 (2*((aA t108 1).f1)))-((aA t108 0).f1))))) (fun _ hk=>⟨hk.1.1.1.1.2,⟨hk.1.1.1.2,⟨hk.1.1.2,hk.1.2⟩⟩⟩)⟩
    replace BK101:Aside0 (((w77.setCell ⟨gb114,0,none⟩ (.int .i64 (wrap64 ((wrap64 (2*((aA t108 1).f0)))-((aA t108 0).f0))))).setCell ⟨gb114,1,none⟩ (.int .i64 (wrap64 ((wrap64 (2*((aA t108 1).f1)))-((aA t108 0).f1))))).heap[gb101]? = some (.cells #[.int .i64 0,.int .i64 0] 80 (0,0))):=⟨eW BK101⟩
    replace BK102:Aside0 (((w77.setCell ⟨gb114,0,none⟩ (.int .i64 (wrap64 ((wrap64 (2*((aA t108 1).f0)))-((aA t108 0).f0))))).setCell ⟨gb114,1,none⟩ (.int .i64 (wrap64 ((wrap64 (2*((aA t108 1).f1)))-((aA t108 0).f1))))).heap[gb102]? = some (.cells #[.int .i64 0,.int .i64 0] 80 (0,0))):=⟨eW BK102⟩
    replace BK103:Aside0 (((w77.setCell ⟨gb114,0,none⟩ (.int .i64 (wrap64 ((wrap64 (2*((aA t108 1).f0)))-((aA t108 0).f0))))).setCell ⟨gb114,1,none⟩ (.int .i64 (wrap64 ((wrap64 (2*((aA t108 1).f1)))-((aA t108 0).f1))))).heap[gb103]? = some (.cells #[.int .i64 0,.int .i64 0] 80 (0,0))):=⟨eW BK103⟩
    replace BK114:Aside0 (((w77.setCell ⟨gb114,0,none⟩ (.int .i64 (wrap64 ((wrap64 (2*((aA t108 1).f0)))-((aA t108 0).f0))))).setCell ⟨gb114,1,none⟩ (.int .i64 (wrap64 ((wrap64 (2*((aA t108 1).f1)))-((aA t108 0).f1))))).heap[gb114]? = some (.cells #[.int .i64 (wrap64 ((wrap64 (2*((aA t108 1).f0)))-((aA t108 0).f0))),.int .i64 (wrap64 ((wrap64 (2*((aA t108 1).f1)))-((aA t108 0).f1)))] 80 (0,0))):=⟨eW BK114⟩
    replace HB:Aside0 (Below w.heap.size w ((w77.setCell ⟨gb114,0,none⟩ (.int .i64 (wrap64 ((wrap64 (2*((aA t108 1).f0)))-((aA t108 0).f0))))).setCell ⟨gb114,1,none⟩ (.int .i64 (wrap64 ((wrap64 (2*((aA t108 1).f1)))-((aA t108 0).f1)))))):=⟨cM HB (aJ HI107.out)⟩
    replace HI107:Aside0 (aX w ((w77.setCell ⟨gb114,0,none⟩ (.int .i64 (wrap64 ((wrap64 (2*((aA t108 1).f0)))-((aA t108 0).f0))))).setCell ⟨gb114,1,none⟩ (.int .i64 (wrap64 ((wrap64 (2*((aA t108 1).f1)))-((aA t108 0).f1))))) g107 t104 t116 t117):=⟨aR HI107⟩
    generalize ((w77.setCell ⟨gb114,0,none⟩ (.int .i64 (wrap64 ((wrap64 (2*((aA t108 1).f0)))-((aA t108 0).f0))))).setCell ⟨gb114,1,none⟩ (.int .i64 (wrap64 ((wrap64 (2*((aA t108 1).f1)))-((aA t108 0).f1)))))=w80 at HO110 BK101 BK102 BK103 BK114 HI107 HB ⊢
    replace HO110:=aD (eQ HO110.out)
    replace BK101:=aD (aK BK101.out)
    replace BK102:=aD (aK BK102.out)
    replace BK103:=aD (aK BK103.out)
    replace BK114:=aD (aK BK114.out)
    replace HI107:=aD (aX.drew HI107.out)
    replace HB:=aD (lC HB.out)
    have p133:0≤(0:Int):=(by omega)
    have q133:0<(t108.length:Int):=dX
    obtain ⟨ad133,e133,hx133_0,hx133_1⟩:=cC (Kd.R_reads' HO110.out).2.2 0 p133 q133
    obtain rfl:ad113=ad133:=(by injection e133)
    have qi133:(0<t108.length)=True:=eq_true (by omega)
    (try rw [show ((0:Int)).toNat=0 from rfl] at hx133_0)
    (try rw [show 0*2=0 from rfl] at hx133_0)
    (try rw [Addr.add_zero'] at hx133_0)
    (try rw [show ((0:Int)).toNat=0 from rfl] at hx133_1)
    (try rw [show 0*2=0 from rfl] at hx133_1)
    (try rw [Addr.add_zero'] at hx133_1)
    replace p133:=eq_true p133
    replace q133:=eq_true q133
    have p134:0≤(1:Int):=(by omega)
    have q134:1<(t108.length:Int):=dX
    obtain ⟨ad134,e134,hx134_0,hx134_1⟩:=cC (Kd.R_reads' HO110.out).2.2 1 p134 q134
    obtain rfl:ad113=ad134:=(by injection e134)
    (try simp only [show (1:Int).toNat=1 from rfl,Nat.reduceMul,Nat.reduceEqDiff,Go.Addr.add,↓reduceIte] at hx134_0)
    (try simp only [show (1:Int).toNat=1 from rfl,Nat.reduceMul,Nat.reduceEqDiff,Go.Addr.add,↓reduceIte] at hx134_1)
    have qi134:(1<t108.length)=True:=eq_true (by omega)
    (try rw [show ((1:Int)).toNat=1 from rfl] at hx134_0)
    (try rw [show 1*2=2 from rfl] at hx134_0)
    (try rw [show ((1:Int)).toNat=1 from rfl] at hx134_1)
    (try rw [show 1*2=2 from rfl] at hx134_1)
    replace p134:=eq_true p134
    replace q134:=eq_true q134
    refine eE (n:=10) (S:=fun w'=>w'.cell? ⟨gb114,0,none⟩=some (.int .i64 (wrap64 ((wrap64 (2*((aA t108 1).f0)))-((aA t108 0).f0))))∧w'.cell? ⟨gb114,1,none⟩=some (.int .i64 (wrap64 ((wrap64 (2*((aA t108 1).f1)))-((aA t108 0).f1))))∧w'.cell? ad113=some (.int .i64 ((aA t108 0).f0))∧w'.cell? ⟨ad113.block,ad113.off+1,none⟩=some (.int .i64 ((aA t108 0).f1))∧w'.cell? ⟨ad113.block,ad113.off+2,none⟩=some (.int .i64 ((aA t108 1).f0))∧w'.cell? ⟨ad113.block,ad113.off+2+1,none⟩=some (.int .i64 ((aA t108 1).f1))) (ds:=[]) (bm 10 0) (by kernel_rfl) rfl rfl ⟨aT BK114 0,aT BK114 1,hx133_0,hx133_1,hx134_0,hx134_1⟩ (fun hHeld=>?_);refine cX gY gR (fun HT_ HW_=>?_)
    generalize w80.drew=w81 at HO110 BK101 BK102 BK103 BK114 HI107 HB hx133_0 hx133_1 hx134_0 hx134_1 hHeld ⊢
    refine dG ((0,0,51,1)::(0,1,52,3)::(0,3,54,11)::(0,4,55,27)::(2,2,53,31)::(2,5,56,63)::(2,6,57,127)::[]) ?_
    iterate 7 (first|refine jT HT_ ?_|refine qB HT_ HW_ hHeld ?_)
    refine bL ?_
    refine cS (i:=7) (N:=none) (bm 10 255) rfl rfl (bI HT_.out (by kernel_rfl)) (by decide) (fun K hK=>?_)
    have hs82:w81.cell? ⟨gb101,0,none⟩=some (.int .i64 0):=aT BK101 0
    have hfs82:=aC BK101.out 0
    have hns82_1:=NB102_101.out
    have hns82_2:=NB103_101.out
    have hns82_3:=NB114_101.out
    have hms82_1:=NB101_102.out
    have hms82_2:=NB101_103.out
    have hms82_3:=NB101_114.out
    have hs83:w81.cell? ⟨gb101,1,none⟩=some (.int .i64 0):=aT BK101 1
    have hfs83:=aC BK101.out 1
    have hns83_1:=NB102_101.out
    have hns83_2:=NB103_101.out
    have hns83_3:=NB114_101.out
    have hms83_1:=NB101_102.out
    have hms83_2:=NB101_103.out
    have hms83_3:=NB101_114.out
    refine fW (w1:=?_) (by rfl) rfl ?_ ?_
    rotate_left
    ·go_simp
     rfl
    refine hK.out _ _ ⟨(cU NB114_101 ((cU NB114_101 hHeld.1))),(cU NB114_101 ((cU NB114_101 hHeld.2.1))),(dT (Kd.own_blk (Kd.R_away HO110.out (fun _ hk=>hk.1))) ((dT (Kd.own_blk (Kd.R_away HO110.out (fun _ hk=>hk.1))) hHeld.2.2.1))),(dT (Kd.own_blk (Kd.R_away HO110.out (fun _ hk=>hk.1))) ((dT (Kd.own_blk (Kd.R_away HO110.out (fun _ hk=>hk.1))) hHeld.2.2.2.1))),(dT (Kd.own_blk (Kd.R_away HO110.out (fun _ hk=>hk.1))) ((dT (Kd.own_blk (Kd.R_away HO110.out (fun _ hk=>hk.1))) hHeld.2.2.2.2.1))),(dT (Kd.own_blk (Kd.R_away HO110.out (fun _ hk=>hk.1))) ((dT (Kd.own_blk (Kd.R_away HO110.out (fun _ hk=>hk.1))) hHeld.2.2.2.2.2)))⟩ (fun hHeld=>?_)
    clear hK K
    refine cS (i:=8) (N:=none) (bm 10 511) rfl rfl (bI HT_.out (by kernel_rfl)) (by decide) (fun K hK=>?_)
    have hs84:w81.cell? ⟨gb102,0,none⟩=some (.int .i64 0):=aT BK102 0
    have hfs84:=aC BK102.out 0
    have hns84_0:=NB101_102.out
    have hns84_2:=NB103_102.out
    have hns84_3:=NB114_102.out
    have hms84_0:=NB102_101.out
    have hms84_2:=NB102_103.out
    have hms84_3:=NB102_114.out
    have hs85:w81.cell? ⟨gb102,1,none⟩=some (.int .i64 0):=aT BK102 1
    have hfs85:=aC BK102.out 1
    have hns85_0:=NB101_102.out
    have hns85_2:=NB103_102.out
    have hns85_3:=NB114_102.out
    have hms85_0:=NB102_101.out
    have hms85_2:=NB102_103.out
    have hms85_3:=NB102_114.out
    refine fW (w1:=?_) (by rfl) rfl ?_ ?_
    rotate_left
    ·go_simp
     rfl
    refine hK.out _ _ ⟨(cU NB114_102 ((cU NB114_102 hHeld.1))),(cU NB114_102 ((cU NB114_102 hHeld.2.1))),(dT (Kd.own_blk (Kd.R_away HO110.out (fun _ hk=>hk.2.1))) ((dT (Kd.own_blk (Kd.R_away HO110.out (fun _ hk=>hk.2.1))) hHeld.2.2.1))),(dT (Kd.own_blk (Kd.R_away HO110.out (fun _ hk=>hk.2.1))) ((dT (Kd.own_blk (Kd.R_away HO110.out (fun _ hk=>hk.2.1))) hHeld.2.2.2.1))),(dT (Kd.own_blk (Kd.R_away HO110.out (fun _ hk=>hk.2.1))) ((dT (Kd.own_blk (Kd.R_away HO110.out (fun _ hk=>hk.2.1))) hHeld.2.2.2.2.1))),(dT (Kd.own_blk (Kd.R_away HO110.out (fun _ hk=>hk.2.1))) ((dT (Kd.own_blk (Kd.R_away HO110.out (fun _ hk=>hk.2.1))) hHeld.2.2.2.2.2)))⟩ (fun hHeld=>?_)
    clear hK K
    refine cS (i:=9) (N:=none) (bm 10 1023) rfl rfl (bI HT_.out (by kernel_rfl)) (by decide) (fun K hK=>?_)
    have hs86:w81.cell? ⟨gb103,0,none⟩=some (.int .i64 0):=aT BK103 0
    have hfs86:=aC BK103.out 0
    have hns86_0:=NB101_103.out
    have hns86_1:=NB102_103.out
    have hns86_3:=NB114_103.out
    have hms86_0:=NB103_101.out
    have hms86_1:=NB103_102.out
    have hms86_3:=NB103_114.out
    have hs87:w81.cell? ⟨gb103,1,none⟩=some (.int .i64 0):=aT BK103 1
    have hfs87:=aC BK103.out 1
    have hns87_0:=NB101_103.out
    have hns87_1:=NB102_103.out
    have hns87_3:=NB114_103.out
    have hms87_0:=NB103_101.out
    have hms87_1:=NB103_102.out
    have hms87_3:=NB103_114.out
    refine fW (w1:=?_) (by rfl) rfl ?_ ?_
    rotate_left
    ·go_simp
     rfl
    refine hK.out _ _ ⟨(cU NB114_103 ((cU NB114_103 hHeld.1))),(cU NB114_103 ((cU NB114_103 hHeld.2.1))),(dT (Kd.own_blk (Kd.R_away HO110.out (fun _ hk=>hk.2.2.1))) ((dT (Kd.own_blk (Kd.R_away HO110.out (fun _ hk=>hk.2.2.1))) hHeld.2.2.1))),(dT (Kd.own_blk (Kd.R_away HO110.out (fun _ hk=>hk.2.2.1))) ((dT (Kd.own_blk (Kd.R_away HO110.out (fun _ hk=>hk.2.2.1))) hHeld.2.2.2.1))),(dT (Kd.own_blk (Kd.R_away HO110.out (fun _ hk=>hk.2.2.1))) ((dT (Kd.own_blk (Kd.R_away HO110.out (fun _ hk=>hk.2.2.1))) hHeld.2.2.2.2.1))),(dT (Kd.own_blk (Kd.R_away HO110.out (fun _ hk=>hk.2.2.1))) ((dT (Kd.own_blk (Kd.R_away HO110.out (fun _ hk=>hk.2.2.1))) hHeld.2.2.2.2.2)))⟩ (fun hHeld=>?_)
    clear hK K
    refine dD (dZ HT_.out (by kernel_rfl)) ?_
    try go_wp2
    refine bodyPost_ret (iI (rs:=[.cell 2 80,.cell 3 80,.cell 4 80]) rfl (by simp) (.cell gb101 80 #[.int .i64 ((aA t108 0).f0),.int .i64 ((aA t108 0).f1)] (0,0) _ rfl (eW BK101) Try.underlying80 rfl (by kernel_rfl) (.cell gb102 80 #[.int .i64 ((aA t108 1).f0),.int .i64 ((aA t108 1).f1)] (0,0) _ rfl (by (with_reducible repeat (first|refine aQ ?_ _|refine aK ?_|refine aN ?_ _));refine bD ?_ NB102_103.out _;(with_reducible repeat (first|refine aQ ?_ _|refine aK ?_|refine aN ?_ _));refine bD ?_ NB102_103.out _;(with_reducible repeat (first|refine aQ ?_ _|refine aK ?_|refine aN ?_ _));refine cJ (cs:=#[.int .i64 ((aA t108 1).f0),.int .i64 0]) ?_ 1 _ rfl;(with_reducible repeat (first|refine aQ ?_ _|refine aK ?_|refine aN ?_ _));refine cJ (cs:=#[.int .i64 0,.int .i64 0]) ?_ 0 _ rfl;(with_reducible repeat (first|refine aQ ?_ _|refine aK ?_|refine aN ?_ _));refine bD ?_ NB102_101.out _;(with_reducible repeat (first|refine aQ ?_ _|refine aK ?_|refine aN ?_ _));refine bD ?_ NB102_101.out _;(with_reducible repeat (first|refine aQ ?_ _|refine aK ?_|refine aN ?_ _));exact BK102.out) Try.underlying80 rfl (by kernel_rfl) (.cell gb103 80 #[.int .i64 (wrap64 ((wrap64 (2*((aA t108 1).f0)))-((aA t108 0).f0))),.int .i64 (wrap64 ((wrap64 (2*((aA t108 1).f1)))-((aA t108 0).f1)))] (0,0) _ rfl (by (with_reducible repeat (first|refine aQ ?_ _|refine aK ?_|refine aN ?_ _));refine cJ (cs:=#[.int .i64 (wrap64 ((wrap64 (2*((aA t108 1).f0)))-((aA t108 0).f0))),.int .i64 0]) ?_ 1 _ rfl;(with_reducible repeat (first|refine aQ ?_ _|refine aK ?_|refine aN ?_ _));refine cJ (cs:=#[.int .i64 0,.int .i64 0]) ?_ 0 _ rfl;(with_reducible repeat (first|refine aQ ?_ _|refine aK ?_|refine aN ?_ _));refine bD ?_ NB103_102.out _;(with_reducible repeat (first|refine aQ ?_ _|refine aK ?_|refine aN ?_ _));refine bD ?_ NB103_102.out _;(with_reducible repeat (first|refine aQ ?_ _|refine aK ?_|refine aN ?_ _));refine bD ?_ NB103_101.out _;(with_reducible repeat (first|refine aQ ?_ _|refine aK ?_|refine aN ?_ _));refine bD ?_ NB103_101.out _;(with_reducible repeat (first|refine aQ ?_ _|refine aK ?_|refine aN ?_ _));exact BK103.out) Try.underlying80 rfl (by kernel_rfl) .nil)))) rfl ?_
    exact ⟨dA,cM HB (aJ HI107.out)⟩
   ·have c61b0:(t115==2)=false:=beq_eq_false_iff_ne.mpr c61
    have c61b1:(t115 != 2)=true:=bne_iff_ne.mpr c61
    obtain ⟨c88,H⟩:=iC H
    have c88b0:=decide_eq_true c88
    have c88b1:decide (0<t108.length)=true:=decide_eq_true (by omega)
    clear c88
    obtain ⟨c89,H⟩:=iC H
    have c89b0:=decide_eq_true c89
    have c89b1:decide (1<t108.length)=true:=decide_eq_true (by omega)
    clear c89
    simp only [Option.some.injEq,Prod.mk.injEq] at H
    obtain ⟨rfl,rfl,rfl,rfl,rfl,rfl⟩:=H
    try go_wp2
    replace HO110:=aD (eQ HO110.out)
    replace BK101:=aD (aK BK101.out)
    replace BK102:=aD (aK BK102.out)
    replace BK103:=aD (aK BK103.out)
    replace BK114:=aD (aK BK114.out)
    replace HI107:=aD (aX.drew HI107.out)
    replace HB:=aD (lC HB.out)
    have p135:0≤(0:Int):=(by omega)
    have q135:0<(t108.length:Int):=dX
    obtain ⟨ad135,e135,hx135_0,hx135_1⟩:=cC (Kd.R_reads' HO110.out).2.2 0 p135 q135
    obtain rfl:ad113=ad135:=(by injection e135)
    have qi135:(0<t108.length)=True:=eq_true (by omega)
    (try rw [show ((0:Int)).toNat=0 from rfl] at hx135_0)
    (try rw [show 0*2=0 from rfl] at hx135_0)
    (try rw [Addr.add_zero'] at hx135_0)
    (try rw [show ((0:Int)).toNat=0 from rfl] at hx135_1)
    (try rw [show 0*2=0 from rfl] at hx135_1)
    (try rw [Addr.add_zero'] at hx135_1)
    replace p135:=eq_true p135
    replace q135:=eq_true q135
    have p136:0≤(1:Int):=(by omega)
    have q136:1<(t108.length:Int):=dX
    obtain ⟨ad136,e136,hx136_0,hx136_1⟩:=cC (Kd.R_reads' HO110.out).2.2 1 p136 q136
    obtain rfl:ad113=ad136:=(by injection e136)
    (try simp only [show (1:Int).toNat=1 from rfl,Nat.reduceMul,Nat.reduceEqDiff,Go.Addr.add,↓reduceIte] at hx136_0)
    (try simp only [show (1:Int).toNat=1 from rfl,Nat.reduceMul,Nat.reduceEqDiff,Go.Addr.add,↓reduceIte] at hx136_1)
    have qi136:(1<t108.length)=True:=eq_true (by omega)
    (try rw [show ((1:Int)).toNat=1 from rfl] at hx136_0)
    (try rw [show 1*2=2 from rfl] at hx136_0)
    (try rw [show ((1:Int)).toNat=1 from rfl] at hx136_1)
    (try rw [show 1*2=2 from rfl] at hx136_1)
    replace p136:=eq_true p136
    replace q136:=eq_true q136
    refine eE (n:=10) (S:=fun w'=>w'.cell? ⟨gb114,0,none⟩=some (.int .i64 ((aA t108 2).f0))∧w'.cell? ⟨gb114,1,none⟩=some (.int .i64 ((aA t108 2).f1))∧w'.cell? ad113=some (.int .i64 ((aA t108 0).f0))∧w'.cell? ⟨ad113.block,ad113.off+1,none⟩=some (.int .i64 ((aA t108 0).f1))∧w'.cell? ⟨ad113.block,ad113.off+2,none⟩=some (.int .i64 ((aA t108 1).f0))∧w'.cell? ⟨ad113.block,ad113.off+2+1,none⟩=some (.int .i64 ((aA t108 1).f1))) (ds:=[]) (bm 10 0) (by kernel_rfl) rfl rfl ⟨aT BK114 0,aT BK114 1,hx135_0,hx135_1,hx136_0,hx136_1⟩ (fun hHeld=>?_);refine cX gY gR (fun HT_ HW_=>?_)
    generalize w22.drew=w103 at HO110 BK101 BK102 BK103 BK114 HI107 HB hx135_0 hx135_1 hx136_0 hx136_1 hHeld ⊢
    refine dG ((0,0,51,1)::(0,1,52,3)::(0,3,54,11)::(0,4,55,27)::(2,2,53,31)::(2,5,56,63)::(2,6,57,127)::[]) ?_
    iterate 7 (first|refine jT HT_ ?_|refine qB HT_ HW_ hHeld ?_)
    refine bL ?_
    refine cS (i:=7) (N:=none) (bm 10 255) rfl rfl (bI HT_.out (by kernel_rfl)) (by decide) (fun K hK=>?_)
    have hs104:w103.cell? ⟨gb101,0,none⟩=some (.int .i64 0):=aT BK101 0
    have hfs104:=aC BK101.out 0
    have hns104_1:=NB102_101.out
    have hns104_2:=NB103_101.out
    have hns104_3:=NB114_101.out
    have hms104_1:=NB101_102.out
    have hms104_2:=NB101_103.out
    have hms104_3:=NB101_114.out
    have hs105:w103.cell? ⟨gb101,1,none⟩=some (.int .i64 0):=aT BK101 1
    have hfs105:=aC BK101.out 1
    have hns105_1:=NB102_101.out
    have hns105_2:=NB103_101.out
    have hns105_3:=NB114_101.out
    have hms105_1:=NB101_102.out
    have hms105_2:=NB101_103.out
    have hms105_3:=NB101_114.out
    refine fW (w1:=?_) (by rfl) rfl ?_ ?_
    rotate_left
    ·go_simp
     rfl
    refine hK.out _ _ ⟨(cU NB114_101 ((cU NB114_101 hHeld.1))),(cU NB114_101 ((cU NB114_101 hHeld.2.1))),(dT (Kd.own_blk (Kd.R_away HO110.out (fun _ hk=>hk.1.1.1.2))) ((dT (Kd.own_blk (Kd.R_away HO110.out (fun _ hk=>hk.1.1.1.2))) hHeld.2.2.1))),(dT (Kd.own_blk (Kd.R_away HO110.out (fun _ hk=>hk.1.1.1.2))) ((dT (Kd.own_blk (Kd.R_away HO110.out (fun _ hk=>hk.1.1.1.2))) hHeld.2.2.2.1))),(dT (Kd.own_blk (Kd.R_away HO110.out (fun _ hk=>hk.1.1.1.2))) ((dT (Kd.own_blk (Kd.R_away HO110.out (fun _ hk=>hk.1.1.1.2))) hHeld.2.2.2.2.1))),(dT (Kd.own_blk (Kd.R_away HO110.out (fun _ hk=>hk.1.1.1.2))) ((dT (Kd.own_blk (Kd.R_away HO110.out (fun _ hk=>hk.1.1.1.2))) hHeld.2.2.2.2.2)))⟩ (fun hHeld=>?_)
    clear hK K
    refine cS (i:=8) (N:=none) (bm 10 511) rfl rfl (bI HT_.out (by kernel_rfl)) (by decide) (fun K hK=>?_)
    have hs106:w103.cell? ⟨gb102,0,none⟩=some (.int .i64 0):=aT BK102 0
    have hfs106:=aC BK102.out 0
    have hns106_0:=NB101_102.out
    have hns106_2:=NB103_102.out
    have hns106_3:=NB114_102.out
    have hms106_0:=NB102_101.out
    have hms106_2:=NB102_103.out
    have hms106_3:=NB102_114.out
    have hs107:w103.cell? ⟨gb102,1,none⟩=some (.int .i64 0):=aT BK102 1
    have hfs107:=aC BK102.out 1
    have hns107_0:=NB101_102.out
    have hns107_2:=NB103_102.out
    have hns107_3:=NB114_102.out
    have hms107_0:=NB102_101.out
    have hms107_2:=NB102_103.out
    have hms107_3:=NB102_114.out
    refine fW (w1:=?_) (by rfl) rfl ?_ ?_
    rotate_left
    ·go_simp
     rfl
    refine hK.out _ _ ⟨(cU NB114_102 ((cU NB114_102 hHeld.1))),(cU NB114_102 ((cU NB114_102 hHeld.2.1))),(dT (Kd.own_blk (Kd.R_away HO110.out (fun _ hk=>hk.1.1.2))) ((dT (Kd.own_blk (Kd.R_away HO110.out (fun _ hk=>hk.1.1.2))) hHeld.2.2.1))),(dT (Kd.own_blk (Kd.R_away HO110.out (fun _ hk=>hk.1.1.2))) ((dT (Kd.own_blk (Kd.R_away HO110.out (fun _ hk=>hk.1.1.2))) hHeld.2.2.2.1))),(dT (Kd.own_blk (Kd.R_away HO110.out (fun _ hk=>hk.1.1.2))) ((dT (Kd.own_blk (Kd.R_away HO110.out (fun _ hk=>hk.1.1.2))) hHeld.2.2.2.2.1))),(dT (Kd.own_blk (Kd.R_away HO110.out (fun _ hk=>hk.1.1.2))) ((dT (Kd.own_blk (Kd.R_away HO110.out (fun _ hk=>hk.1.1.2))) hHeld.2.2.2.2.2)))⟩ (fun hHeld=>?_)
    clear hK K
    refine cS (i:=9) (N:=none) (bm 10 1023) rfl rfl (bI HT_.out (by kernel_rfl)) (by decide) (fun K hK=>?_)
    have hs108:w103.cell? ⟨gb103,0,none⟩=some (.int .i64 0):=aT BK103 0
    have hfs108:=aC BK103.out 0
    have hns108_0:=NB101_103.out
    have hns108_1:=NB102_103.out
    have hns108_3:=NB114_103.out
    have hms108_0:=NB103_101.out
    have hms108_1:=NB103_102.out
    have hms108_3:=NB103_114.out
    have hs109:w103.cell? ⟨gb103,1,none⟩=some (.int .i64 0):=aT BK103 1
    have hfs109:=aC BK103.out 1
    have hns109_0:=NB101_103.out
    have hns109_1:=NB102_103.out
    have hns109_3:=NB114_103.out
    have hms109_0:=NB103_101.out
    have hms109_1:=NB103_102.out
    have hms109_3:=NB103_114.out
    refine fW (w1:=?_) (by rfl) rfl ?_ ?_
    rotate_left
    ·go_simp
     rfl
    refine hK.out _ _ ⟨(cU NB114_103 ((cU NB114_103 hHeld.1))),(cU NB114_103 ((cU NB114_103 hHeld.2.1))),(dT (Kd.own_blk (Kd.R_away HO110.out (fun _ hk=>hk.1.2))) ((dT (Kd.own_blk (Kd.R_away HO110.out (fun _ hk=>hk.1.2))) hHeld.2.2.1))),(dT (Kd.own_blk (Kd.R_away HO110.out (fun _ hk=>hk.1.2))) ((dT (Kd.own_blk (Kd.R_away HO110.out (fun _ hk=>hk.1.2))) hHeld.2.2.2.1))),(dT (Kd.own_blk (Kd.R_away HO110.out (fun _ hk=>hk.1.2))) ((dT (Kd.own_blk (Kd.R_away HO110.out (fun _ hk=>hk.1.2))) hHeld.2.2.2.2.1))),(dT (Kd.own_blk (Kd.R_away HO110.out (fun _ hk=>hk.1.2))) ((dT (Kd.own_blk (Kd.R_away HO110.out (fun _ hk=>hk.1.2))) hHeld.2.2.2.2.2)))⟩ (fun hHeld=>?_)
    clear hK K
    refine dD (dZ HT_.out (by kernel_rfl)) ?_
    try go_wp2
    refine bodyPost_ret (iI (rs:=[.cell 2 80,.cell 3 80,.cell 4 80]) rfl (by simp) (.cell gb101 80 #[.int .i64 ((aA t108 0).f0),.int .i64 ((aA t108 0).f1)] (0,0) _ rfl (eW BK101) Try.underlying80 rfl (by kernel_rfl) (.cell gb102 80 #[.int .i64 ((aA t108 1).f0),.int .i64 ((aA t108 1).f1)] (0,0) _ rfl (by (with_reducible repeat (first|refine aQ ?_ _|refine aK ?_|refine aN ?_ _));refine bD ?_ NB102_103.out _;(with_reducible repeat (first|refine aQ ?_ _|refine aK ?_|refine aN ?_ _));refine bD ?_ NB102_103.out _;(with_reducible repeat (first|refine aQ ?_ _|refine aK ?_|refine aN ?_ _));refine cJ (cs:=#[.int .i64 ((aA t108 1).f0),.int .i64 0]) ?_ 1 _ rfl;(with_reducible repeat (first|refine aQ ?_ _|refine aK ?_|refine aN ?_ _));refine cJ (cs:=#[.int .i64 0,.int .i64 0]) ?_ 0 _ rfl;(with_reducible repeat (first|refine aQ ?_ _|refine aK ?_|refine aN ?_ _));refine bD ?_ NB102_101.out _;(with_reducible repeat (first|refine aQ ?_ _|refine aK ?_|refine aN ?_ _));refine bD ?_ NB102_101.out _;(with_reducible repeat (first|refine aQ ?_ _|refine aK ?_|refine aN ?_ _));exact BK102.out) Try.underlying80 rfl (by kernel_rfl) (.cell gb103 80 #[.int .i64 ((aA t108 2).f0),.int .i64 ((aA t108 2).f1)] (0,0) _ rfl (by (with_reducible repeat (first|refine aQ ?_ _|refine aK ?_|refine aN ?_ _));refine cJ (cs:=#[.int .i64 ((aA t108 2).f0),.int .i64 0]) ?_ 1 _ rfl;(with_reducible repeat (first|refine aQ ?_ _|refine aK ?_|refine aN ?_ _));refine cJ (cs:=#[.int .i64 0,.int .i64 0]) ?_ 0 _ rfl;(with_reducible repeat (first|refine aQ ?_ _|refine aK ?_|refine aN ?_ _));refine bD ?_ NB103_102.out _;(with_reducible repeat (first|refine aQ ?_ _|refine aK ?_|refine aN ?_ _));refine bD ?_ NB103_102.out _;(with_reducible repeat (first|refine aQ ?_ _|refine aK ?_|refine aN ?_ _));refine bD ?_ NB103_101.out _;(with_reducible repeat (first|refine aQ ?_ _|refine aK ?_|refine aN ?_ _));refine bD ?_ NB103_101.out _;(with_reducible repeat (first|refine aQ ?_ _|refine aK ?_|refine aN ?_ _));exact BK103.out) Try.underlying80 rfl (by kernel_rfl) .nil)))) rfl ?_
    exact ⟨dA,cM HB (aJ HI107.out)⟩
/-! ### spec_DrawTripleOf: function 81 -/
def spec_DrawTripleOf.f (k:Nat) (l0:List Int):Option (Int×Int):=(spec_l2Three.f k l0).bind fun bt102=>(some (bt102.1,bt102.2.1))
set_option maxHeartbeats 8000000 in
set_option maxRecDepth 100000 in
theorem mT (k:Nat) (A0:Option Addr) (c0:Nat) (l0:List Int) (r1:Int) (r2:Int) (w:World) (hr0:Kd.C (Kd.int .u8) w A0 l0.length l0) (hc0:l0.length≤c0) (h:spec_DrawTripleOf.f k l0=some (r1,r2)) :
  Calls Try.prog 81 #[.slice A0 l0.length c0] w fun e w'=>e=.returned (.agg #[.int .i64 r1,.int .i64 r2])∧Below w.heap.size w w':=by
 have hu80:=Try.underlying80
 have HR0:=aD hr0
 have HC0:=aD hc0
 clear hr0 hc0
 have HB:=aD (Below.refl w.heap.size w)
 unfold spec_DrawTripleOf.f at h
 have H:=h
 clear h
 replace H:=fQ H
 obtain ⟨⟨t102,t103,t104,t105,t106,t107⟩,A2,H⟩:=H
 try dsimp only at H
 simp only [Option.some.injEq,Prod.mk.injEq] at H
 obtain ⟨rfl,rfl⟩:=H
 go_enter Try.func81,Try.ntmps81
 go_wp2_with (first|((with_reducible refine aW (N:=2) rfl ?_);refine bS (N:=2) #[.int .i64 0,.int .i64 0] 80 ?_;intro gb101 hg w3 hbox hb;have BK101:=aD (hbox);have GW101:=aD ((cZ HB hg));have GE101:=aD ((cZ HB hg));replace HB:=aD (aE (bM HB) hb);clear hb hbox hg)|((with_reducible refine aV (f:=140) rfl ?_);refine bK (some 8) Try.func140 #[.slice A0 l0.length c0] ?_;(with_reducible refine (qQ k _ _ l0 t102 t103 t104 t105 t106 t107 _ ?side1 ?side2 A2.out).mono ?_);(case side1=>exact nK (Kd.C_below HR0.out HB.out));(case side2=>exact HC0.out);rintro e w4 ⟨rfl,hb⟩;refine ⟨_,rfl,?_⟩;replace BK101:=aD (aU BK101 hb);replace HB:=aD (aE (bM HB) hb);(try clear hb))|((with_reducible refine aW (N:=3) rfl ?_);refine bS (N:=3) #[.int .i64 0,.int .i64 0] 80 ?_;intro gb108 hg w5 hbox hb;have BK108:=aD (hbox);have GW108:=aD ((cZ HB hg));have GE108:=aD ((cZ HB hg));replace HB:=aD (aE (bM HB) hb);have NB101_108:=aD ((bW BK101 hg));have NB108_101:=aD ((bX BK101 hg));replace BK101:=aD (aU BK101 hb);clear hb hbox hg)|((with_reducible refine aW (N:=4) rfl ?_);refine bS (N:=4) #[.int .i64 0,.int .i64 0] 80 ?_;intro gb109 hg w6 hbox hb;have BK109:=aD (hbox);have GW109:=aD ((cZ HB hg));have GE109:=aD ((cZ HB hg));replace HB:=aD (aE (bM HB) hb);have NB101_109:=aD ((bW BK101 hg));have NB109_101:=aD ((bX BK101 hg));replace BK101:=aD (aU BK101 hb);have NB108_109:=aD ((bW BK108 hg));have NB109_108:=aD ((bX BK108 hg));replace BK108:=aD (aU BK108 hb);clear hb hbox hg)|((with_reducible refine aW (N:=5) rfl ?_);refine bS (N:=5) #[.int .i64 0,.int .i64 0] 80 ?_;intro gb110 hg w7 hbox hb;have BK110:=aD (hbox);have GW110:=aD ((cZ HB hg));have GE110:=aD ((cZ HB hg));replace HB:=aD (aE (bM HB) hb);have NB101_110:=aD ((bW BK101 hg));have NB110_101:=aD ((bX BK101 hg));replace BK101:=aD (aU BK101 hb);have NB108_110:=aD ((bW BK108 hg));have NB110_108:=aD ((bX BK108 hg));replace BK108:=aD (aU BK108 hb);have NB109_110:=aD ((bW BK109 hg));have NB110_109:=aD ((bX BK109 hg));replace BK109:=aD (aU BK109 hb);clear hb hbox hg;have hnb8:=NB108_101.out;have hnc8:=NB101_108.out;have hnb9:=NB108_109.out;have hnc9:=NB109_108.out;have hnb10:=NB108_110.out;have hnc10:=NB110_108.out;have hcz11_0:=aT BK108 0;have hcz11_1:=aT BK108 1;have hfz11_0:=aC BK108.out 0;have hfz11_1:=aC BK108.out 1;have hnb12:=NB109_101.out;have hnc12:=NB101_109.out;have hnb13:=NB109_110.out;have hnc13:=NB110_109.out;have hcz14_0:=aT BK109 0;have hcz14_1:=aT BK109 1;have hfz14_0:=aC BK109.out 0;have hfz14_1:=aC BK109.out 1;have hnb15:=NB110_101.out;have hnc15:=NB101_110.out;have hcz16_0:=aT BK110 0;have hcz16_1:=aT BK110 1;have hfz16_0:=aC BK110.out 0;have hfz16_1:=aC BK110.out 1;have hcz17_0:=aT BK101 0;have hcz17_1:=aT BK101 1;have hfz17_0:=aC BK101.out 0;have hfz17_1:=aC BK101.out 1))
 refine bodyPost_ret (results_cell_row rfl _ _ gb101 80 #[.int .i64 t102,.int .i64 t103] (0,0) _ rfl (by (with_reducible repeat (first|refine aQ ?_ _|refine aK ?_|refine aN ?_ _));refine cJ (cs:=#[.int .i64 t102,.int .i64 0]) ?_ 1 _ rfl;(with_reducible repeat (first|refine aQ ?_ _|refine aK ?_|refine aN ?_ _));refine cJ (cs:=#[.int .i64 0,.int .i64 0]) ?_ 0 _ rfl;(with_reducible repeat (first|refine aQ ?_ _|refine aK ?_|refine aN ?_ _));refine bD ?_ NB101_110.out _;(with_reducible repeat (first|refine aQ ?_ _|refine aK ?_|refine aN ?_ _));refine bD ?_ NB101_110.out _;(with_reducible repeat (first|refine aQ ?_ _|refine aK ?_|refine aN ?_ _));refine bD ?_ NB101_109.out _;(with_reducible repeat (first|refine aQ ?_ _|refine aK ?_|refine aN ?_ _));refine bD ?_ NB101_109.out _;(with_reducible repeat (first|refine aQ ?_ _|refine aK ?_|refine aN ?_ _));refine bD ?_ NB101_108.out _;(with_reducible repeat (first|refine aQ ?_ _|refine aK ?_|refine aN ?_ _));refine bD ?_ NB101_108.out _;(with_reducible repeat (first|refine aQ ?_ _|refine aK ?_|refine aN ?_ _));exact BK101.out) Try.underlying80 rfl (by kernel_rfl)) rfl ?_
 exact ⟨dA,bM HB⟩
end Go.Proofs.Ytldcckcljjlglaa.P

namespace Go.Proofs.Ytldcckcljjlglaa.P
open Go.RowKit Go.Proofs.YtldcckcljjlglaaW.PrintWords Go.Proofs.YtldcckcljjlglaaW.PrintLast Go.Proofs.YtldcckcljjlglaaW.PrintMore
attribute [local go_sem] max2_int min2_int max_two min_two max_three min_three max_four min_four
set_option linter.unusedVariables false
set_option linter.unusedSimpArgs false
attribute [local go_sem high] eqA72
/-! ### laws_sameTriples: function 85 -/
def dY:Nat→List (eV)→List (eV)→Int→Option (Bool)
 | 0,_,_,_=>none
 | k+1,x0,x1,x5=>if x5<(x0.length:Int) then (if 0≤x5 then (if x5<(x1.length:Int) then (if (!(((aI x0 x5).f0)==((aI x1 x5).f0))||(!(((aI x0 x5).f1)==((aI x1 x5).f1))||(!(((aI x0 x5).f2)==((aI x1 x5).f2)))))=true then (some false) else (dY k x0 x1 (wrap64 (x5+1)))) else (none)) else (none)) else (some true)
def laws_sameTriples.f (k:Nat) (l0:List (eV)) (l1:List (eV)):Option (Bool):=if (l0.length:Int)=(l1.length:Int) then (dY k l0 l1 0) else (some false)
set_option maxHeartbeats 8000000 in
set_option maxRecDepth 100000 in
theorem jF (k:Nat) (A0:Option Addr) (c0:Nat) (l0:List (eV)) (A1:Option Addr) (c1:Nat) (l1:List (eV)) (r:Bool) (w:World) (hr0:Kd.C gG w A0 l0.length l0) (hc0:l0.length≤c0) (hr1:Kd.C gG w A1 l1.length l1) (hc1:l1.length≤c1) (h:laws_sameTriples.f k l0 l1=some r) :
  Calls Try.prog 85 #[.slice A0 l0.length c0,.slice A1 l1.length c1] w fun e w'=>e=.returned (.bool r)∧jS w w':=by
 have hu72:=Try.underlying72
 have HR0:=aD hr0
 have HC0:=aD hc0
 clear hr0 hc0
 have HR1:=aD hr1
 have HC1:=aD hc1
 clear hr1 hc1
 unfold laws_sameTriples.f at h
 have H:=h
 clear h
 replace H:=kK H
 rcases H with ⟨c3,H⟩|⟨c3,H⟩
 ·have c3b0:((l0.length:Int)==(l1.length:Int))=true:=beq_iff_eq.mpr c3
  have c3b1:((l0.length:Int) != (l1.length:Int))=false:=bne_eq_false_iff_eq.mpr c3
  have c3b2:(l0.length==l1.length)=true:=by first|simpa using c3|(simp at c3 ⊢;omega)
  clear c3
  have H':=aD H
  clear H
  go_enter Try.func85,Try.ntmps85
  go_wp2
  repeat (go_quiet (fail);try go_wp2)
  go_loopg [5] k (fun kq v5 w'=>∃ (x5_1:Int),v5=.int .i64 x5_1∧Aside0 (dY kq l0 l1 x5_1=some r)∧Aside0 (kq≤k)∧jS w w')
  case atStart=>exact ⟨(0),eO,H',⟨Nat.le_refl _⟩,by repeat (first|exact jS.refl _|apply eD)⟩
  case round =>
   clear H'
   try clear c1
   try clear c3
   try clear c3b0
   try clear c3b1
   try clear c3b2
   obtain ⟨x5_1,rfl,HA,HK1,⟨m1,rfl⟩⟩:=hrel
   cases gk with
   | zero=>exact absurd HA.out (by simp [dY])
   | succ k1 =>
    have H:=HA.out
    clear HA
    simp only [dY] at H
    replace H:=mJ H
    rcases H with ⟨c4b0,H⟩|⟨c4b0,H⟩
    ·obtain ⟨c5b0,H⟩:=jU H
     obtain ⟨c6b0,H⟩:=jU H
     replace H:=kK H
     rcases H with ⟨c7,H⟩|⟨c7,H⟩
     ·have c7b0:(!(((aI l0 x5_1).f0)==((aI l1 x5_1).f0))||(!(((aI l0 x5_1).f1)==((aI l1 x5_1).f1))||(!(((aI l0 x5_1).f2)==((aI l1 x5_1).f2)))))=true:=c7
      clear c7
      obtain rfl:=Option.some.inj H
      obtain ⟨p101,q101,ad101,e101,hx101_0,hx101_1,hx101_2⟩:=wC (dJ HR0.out x5_1)
      cases e101
      obtain ⟨p102,q102,ad102,e102,hx102_0,hx102_1,hx102_2⟩:=wC (dJ HR1.out x5_1)
      cases e102
      go_wp2
      repeat (go_quiet (fail);try go_wp2)
      go_ret
      exact ⟨eO,by repeat (first|exact jS.refl _|apply eD)⟩
     ·have c7b0:(!(((aI l0 x5_1).f0)==((aI l1 x5_1).f0))||(!(((aI l0 x5_1).f1)==((aI l1 x5_1).f1))||(!(((aI l0 x5_1).f2)==((aI l1 x5_1).f2)))))=false:=by simpa using c7
      clear c7
      have H':=aD H
      clear H
      obtain ⟨p101,q101,ad101,e101,hx101_0,hx101_1,hx101_2⟩:=wC (dJ HR0.out x5_1)
      cases e101
      obtain ⟨p102,q102,ad102,e102,hx102_0,hx102_1,hx102_2⟩:=wC (dJ HR1.out x5_1)
      cases e102
      go_wp2
      repeat (go_quiet (fail);try go_wp2)
      go_roundg k1
      case measure=>have:=HK1.out;omega
      case rel=>exact ⟨(wrap64 (x5_1+1)),eO,H',⟨by have:=HK1.out;omega⟩,by repeat (first|exact jS.refl _|apply eD)⟩
    ·obtain rfl:=Option.some.inj H
     go_wp2
     repeat (go_quiet (fail);try go_wp2)
     go_ret
     exact ⟨eO,by repeat (first|exact jS.refl _|apply eD)⟩
 ·have c3b0:((l0.length:Int)==(l1.length:Int))=false:=beq_eq_false_iff_ne.mpr c3
  have c3b1:((l0.length:Int) != (l1.length:Int))=true:=bne_iff_ne.mpr c3
  have c3b2:(l0.length==l1.length)=false:=by first|simpa using c3|(simp at c3 ⊢;omega)
  obtain rfl:=Option.some.inj H
  go_enter Try.func85,Try.ntmps85
  go_wp2
  repeat (go_quiet (fail);try go_wp2)
  go_ret
  exact ⟨eO,by repeat (first|exact jS.refl _|apply eD)⟩
end Go.Proofs.Ytldcckcljjlglaa.P

