/- A part of the proof of FnGrid: printed contracts and plain laws, joined by a program of this session. -/
import Derived.Test.YteaagaekdkolnaaGreatZFnGrid2
import Derived.Shelf.Sort.Plain
import Derived.Shelf.Slices.In.SortNone
import Derived.Test.YteaagaekdkolnaaGreatProg
namespace Go.Proofs.YteaagaekdkolnaaGreat.P
open Go.RowKit Go.Proofs.YteaagaekdkolnaaGreatW.PrintWords Go.Proofs.YteaagaekdkolnaaGreatW.PrintLast Go.Proofs.YteaagaekdkolnaaGreatW.PrintMore
attribute [local go_sem] max2_int min2_int max_two min_two max_three min_three max_four min_four
set_option linter.unusedVariables false
set_option linter.unusedSimpArgs false
/-! ### impl_HullArea: function 31 -/
def eY:Nat→List (cF)→Int→List (cF)→Int→Int→Option (Int)
 | 0,_,_,_,_,_=>none
 | k+1,x3,x4,x13,x14,x15=>if x15<x14 then (if 0≤x15 then (if x15<(x13.length:Int) then (if (x3.length:Int)=0 then (none) else (if 0≤(Int.tmod (wrap64 (x15+1)) (x3.length:Int)) then (if (Int.tmod (wrap64 (x15+1)) (x3.length:Int))<(x3.length:Int) then (eY k x3 (wrap64 ((wrap64 (x4+(wrap64 (((aC x13 x15).f0)*((aC x3 (Int.tmod (wrap64 (x15+1)) (x3.length:Int))).f1)))))-(wrap64 (((aC x13 x15).f1)*((aC x3 (Int.tmod (wrap64 (x15+1)) (x3.length:Int))).f0))))) x13 x14 (wrap64 (x15+1))) else (none)) else (none))) else (none)) else (none)) else (some x4)
def impl_HullArea.f (k:Nat) (l0:List (cF)):Option (Int):=(impl_ArePoints.f k l0).bind fun t101=>(if t101=true then ((impl_hullPoints.f k l0).bind fun t102=>(eY k t102 0 t102 (t102.length:Int) 0)) else (some (-1)))
set_option maxHeartbeats 8000000 in
set_option maxRecDepth 100000 in
theorem wO (k:Nat) (A0:Option Addr) (c0:Nat) (l0:List (cF)) (r:Int) (w:World) (hr0:Kd.C jW w A0 l0.length l0) (hc0:l0.length≤c0) (h:impl_HullArea.f k l0=some r) :
  Calls Tryz.prog 31 #[.slice A0 l0.length c0] w fun e w'=>e=.returned (.int .i64 r)∧Below w.heap.size w w':=by
 have hu28:=Tryz.underlying28
 have HR0:=aE hr0
 have HC0:=aE hc0
 clear hr0 hc0
 have HB:=aE (Below.refl w.heap.size w)
 unfold impl_HullArea.f at h
 have H:=h
 clear h
 replace H:=eM H
 obtain ⟨t101,A2,H⟩:=H
 by_cases c3:t101=true
 ·subst c3
  rw [if_pos rfl] at H
  replace H:=eM H
  obtain ⟨t102,A4,H⟩:=H
  have H':=aE H
  clear H
  go_enter Tryz.func31,Tryz.ntmps31
  go_wp2_with (first|((with_reducible refine aJ (f:=30) rfl ?_);refine aV (some 9) Tryz.func30 #[.slice A0 l0.length c0] ?_;(with_reducible refine (cA k _ _ l0 true _ ?side1 ?side2 A2.out).mono ?_);(case side1=>exact kJ HR0.out);(case side2=>exact HC0.out);rintro e w5 ⟨rfl,hb⟩;refine ⟨_,rfl,?_⟩;replace HB:=aE (aD (aX HB) hb);(try clear hb);(try clear hk))|((with_reducible refine aJ (f:=32) rfl ?_);refine aV (some 12) Tryz.func32 #[.slice A0 l0.length c0] ?_;(with_reducible refine (lE k _ _ l0 t102 _ ?side1 ?side2 A4.out).mono ?_);(case side1=>exact kJ (Kd.C_below HR0.out HB.out));(case side2=>exact HC0.out);rintro e w6 ⟨v103,rfl,ho0,hb⟩;refine ⟨_,rfl,?_⟩;have HO104:=aE (Kd.R_lower ho0 (aT (aX HB)));replace HB:=aE (aD (aX HB) hb);(try clear hb);(try clear hk);(try clear ho0);obtain ⟨Ao7,co7,eo7⟩:=Kd.R_slice HO104.out;subst eo7))
  go_loopg [4,15] k (fun kq v4 v15 w'=>∃ (x4_1:Int) (x15_1:Int),v4=.int .i64 x4_1∧v15=.int .i64 x15_1∧Aside0 (eY kq t102 x4_1 t102 (t102.length:Int) x15_1=some r)∧Aside0 (kq≤k)∧Aside0 (Kd.R jW 28 w' w.heap.size (fun _=>True) (.slice Ao7 t102.length co7) t102)∧Aside0 (Kd.R jW 28 w' w.heap.size (fun _=>True) (.slice Ao7 t102.length co7) t102)∧Aside0 (Below w.heap.size w w'))
  case atStart=>exact ⟨(0),(0),aH,aH,H',⟨Nat.le_refl _⟩,⟨bN HO104⟩,⟨bN HO104⟩,⟨aX HB⟩⟩
  case round =>
   clear H'
   try clear c3
   obtain ⟨x4_1,x15_1,rfl,rfl,HA,HK1,HO_3,HO_13,HB⟩:=hrel
   cases gk with
   | zero=>exact absurd HA.out (by simp [eY])
   | succ k1 =>
    have H:=HA.out
    clear HA
    simp only [eY] at H
    rcases eV H with ⟨c8b0,H⟩|⟨c8b0,H⟩
    ·obtain ⟨c9b0,H⟩:=cV H
     obtain ⟨c10b0,H⟩:=cV H
     obtain ⟨c11,H⟩:=JQ H
     have c11b0:((t102.length:Int)==0)=false:=beq_eq_false_iff_ne.mpr c11
     have c11b1:((t102.length:Int) != 0)=true:=bne_iff_ne.mpr c11
     have c11b2:¬ (t102=[]):=fun h_=>c11 (by rw [h_];rfl)
     obtain ⟨ji12,hji12⟩:∃ j_:Int,(Int.tmod (wrap64 (x15_1+1)) (t102.length:Int))=j_:=⟨_,rfl⟩
     replace H:(if 0≤(ji12) then (if (ji12)<(t102.length:Int) then (eY k1 t102 (wrap64 ((wrap64 (x4_1+(wrap64 (((aC t102 x15_1).f0)*((aC t102 (ji12)).f1)))))-(wrap64 (((aC t102 x15_1).f1)*((aC t102 (ji12)).f0))))) t102 (t102.length:Int) (wrap64 (x15_1+1))) else (none)) else (none))=some r:=by first|(rw [hji12] at H;exact H)|(simp only [hji12] at H ⊢;exact H)
     obtain ⟨c13b0,H⟩:=cV H
     obtain ⟨c14b0,H⟩:=cV H
     have H':=aE H
     clear H
     obtain ⟨p105,q105,ad105,e105,hx105_0,hx105_1⟩:=jP (bW (Kd.R_reads' HO_13.out).2.2 x15_1)
     cases e105
     go_wp2_with (first|((with_reducible refine aN (N:=6) rfl ?_);refine bV (N:=6) #[.int .i64 0,.int .i64 0] 28 ?_;intro gb106 hg w15 hbox hb;replace HO_3:=aE (Kd.R_below (Kd.R_elderB (bN HO_3) gb106 (Nat.le_of_eq hg.symm)) hb);replace HO_13:=aE (Kd.R_below (Kd.R_elderB (bN HO_13) gb106 (Nat.le_of_eq hg.symm)) hb);have BK106:=aE (hbox);have GW106:=aE ((dX HB hg));have GE106:=aE ((dX HB hg));replace HB:=aE (aD (aX HB) hb);clear hb hbox hg;have hcz16_0:=aW BK106 0;have hcz16_1:=aW BK106 1;have hfz16_0:=aA BK106.out 0;have hfz16_1:=aA BK106.out 1;have p107:0≤((ji12):Int):=bI;have q107:(ji12)<(t102.length:Int):=bI;obtain ⟨ad107,e107,hx107_0,hx107_1⟩:=bW (Kd.R_reads' HO_3.out).2.2 (ji12) p107 q107;obtain rfl:ad105=ad107:=(by injection e107);have hn107_0:ad105.block≠gb106:=(by first|exact Kd.own_blk (Kd.R_ne HO_3.out BK106.out (by decide))|exact (HO_3.out.1 _ rfl).2|exact (HO_3.out.1 _ rfl).1.2);have hn107_1:ad105.block≠gb106:=(by first|exact Kd.own_blk (Kd.R_ne HO_3.out BK106.out (by decide))|exact (HO_3.out.1 _ rfl).2|exact (HO_3.out.1 _ rfl).1.2);replace hx107_0:=(kN (p:=⟨gb106,0,none⟩) (by first|(rw [dV];exact hn107_0)|(show (Addr.add _ _).block≠_;rw [dV];exact hn107_0)|exact hn107_0) (.int .i64 ((aC t102 x15_1).f0))).trans hx107_0;replace hx107_1:=(kN (p:=⟨gb106,0,none⟩) (by first|(rw [dV];exact hn107_0)|(show (Addr.add _ _).block≠_;rw [dV];exact hn107_0)|exact hn107_0) (.int .i64 ((aC t102 x15_1).f0))).trans hx107_1;replace hx107_0:=(kN (p:=⟨gb106,1,none⟩) (by first|(rw [dV];exact hn107_1)|(show (Addr.add _ _).block≠_;rw [dV];exact hn107_1)|exact hn107_1) (.int .i64 ((aC t102 x15_1).f1))).trans hx107_0;replace hx107_1:=(kN (p:=⟨gb106,1,none⟩) (by first|(rw [dV];exact hn107_1)|(show (Addr.add _ _).block≠_;rw [dV];exact hn107_1)|exact hn107_1) (.int .i64 ((aC t102 x15_1).f1))).trans hx107_1;clear hn107_0;clear hn107_1;replace p107:=eq_true p107;replace q107:=eq_true q107)|((with_reducible refine aN (N:=7) rfl ?_);refine bV (N:=7) #[.int .i64 0,.int .i64 0] 28 ?_;intro gb108 hg w17 hbox hb;replace HO_3:=aE (Kd.R_below (Kd.R_elderB (by (with_reducible repeat (first|apply kD|apply kE|apply gU));exact (Kd.R_mono (Kd.R_far (p:=⟨gb106,1,none⟩) (Kd.R_far (p:=⟨gb106,0,none⟩) (Kd.R_mono HO_3.out (fun k_ hk=>(⟨hk,hk.2⟩:_∧k_≠gb106))) (fun _ hk=>hk.2) (.int .i64 ((aC t102 x15_1).f0))) (fun _ hk=>hk.2) (.int .i64 ((aC t102 x15_1).f1))) (fun _ h_=>h_.1))) gb108 (Nat.le_of_eq hg.symm)) hb);replace HO_13:=aE (Kd.R_below (Kd.R_elderB (by (with_reducible repeat (first|apply kD|apply kE|apply gU));exact (Kd.R_mono (Kd.R_far (p:=⟨gb106,1,none⟩) (Kd.R_far (p:=⟨gb106,0,none⟩) (Kd.R_mono HO_13.out (fun k_ hk=>(⟨hk,hk.2⟩:_∧k_≠gb106))) (fun _ hk=>hk.2) (.int .i64 ((aC t102 x15_1).f0))) (fun _ hk=>hk.2) (.int .i64 ((aC t102 x15_1).f1))) (fun _ h_=>h_.1))) gb108 (Nat.le_of_eq hg.symm)) hb);have BK108:=aE (hbox);have GW108:=aE ((dX HB hg));have GE108:=aE ((dX HB hg));replace HB:=aE (aD (aX HB) hb);have NB106_108:=aE ((by rw [hg];exact Nat.ne_of_lt (gB (g:=gb106) (o:=.cells #[.int .i64 ((aC t102 x15_1).f0),.int .i64 ((aC t102 x15_1).f1)] 28 (0,0)) (jR BK106)):gb106≠gb108));have NB108_106:=aE ((by rw [hg];exact Nat.ne_of_gt (gB (g:=gb106) (o:=.cells #[.int .i64 ((aC t102 x15_1).f0),.int .i64 ((aC t102 x15_1).f1)] 28 (0,0)) (jR BK106)):gb108≠gb106));replace BK106:=aE (aZ (g:=gb106) (o:=.cells #[.int .i64 ((aC t102 x15_1).f0),.int .i64 ((aC t102 x15_1).f1)] 28 (0,0)) (jR BK106) hb);clear hb hbox hg;have hnb18:=NB108_106.out;have hnc18:=NB106_108.out;have hcz19_0:=aW BK108 0;have hcz19_1:=aW BK108 1;have hfz19_0:=aA BK108.out 0;have hfz19_1:=aA BK108.out 1;have hcz20_0:=aW BK106 0;have hcz20_1:=aW BK106 1;have hfz20_0:=aA BK106.out 0;have hfz20_1:=aA BK106.out 1))
     go_roundg k1
     case measure=>have:=HK1.out;omega
     case rel=>exact ⟨(wrap64 ((wrap64 (x4_1+(wrap64 (((aC t102 x15_1).f0)*((aC t102 (ji12)).f1)))))-(wrap64 (((aC t102 x15_1).f1)*((aC t102 (ji12)).f0))))),(wrap64 (x15_1+1)),(by first|rfl|(simp;done)|(simp only [← hji12] <;> (first|rfl|simp))|(simp [*];done)),aH,H',⟨by have:=HK1.out;omega⟩,⟨by (with_reducible repeat (first|apply kD|apply kE|apply gU));exact Kd.R_mono (Kd.R_far (p:=⟨gb108,1,none⟩) (Kd.R_far (p:=⟨gb108,0,none⟩) (Kd.R_mono HO_3.out (fun k_ hk=>(⟨hk,hk.2⟩:_∧k_≠gb108))) (fun _ hk=>hk.2) (.int .i64 ((aC t102 (ji12)).f0))) (fun _ hk=>hk.2) (.int .i64 ((aC t102 (ji12)).f1))) (fun _ hk=>trivial)⟩,⟨by (with_reducible repeat (first|apply kD|apply kE|apply gU));exact Kd.R_mono (Kd.R_far (p:=⟨gb108,1,none⟩) (Kd.R_far (p:=⟨gb108,0,none⟩) (Kd.R_mono HO_13.out (fun k_ hk=>(⟨hk,hk.2⟩:_∧k_≠gb108))) (fun _ hk=>hk.2) (.int .i64 ((aC t102 (ji12)).f0))) (fun _ hk=>hk.2) (.int .i64 ((aC t102 (ji12)).f1))) (fun _ hk=>trivial)⟩,⟨aX HB⟩⟩
    ·obtain rfl:=Option.some.inj H
     go_wp2
     go_ret
     exact ⟨bP,aX HB⟩
 ·replace c3:=Bool.eq_false_iff.mpr c3
  subst c3
  rw [if_neg (show ¬ (false=true) by decide)] at H
  obtain rfl:=Option.some.inj H
  go_enter Tryz.func31,Tryz.ntmps31
  go_wp2_with (first|((with_reducible refine aJ (f:=30) rfl ?_);refine aV (some 9) Tryz.func30 #[.slice A0 l0.length c0] ?_;(with_reducible refine (cA k _ _ l0 false _ ?side1 ?side2 A2.out).mono ?_);(case side1=>exact kJ HR0.out);(case side2=>exact HC0.out);rintro e w21 ⟨rfl,hb⟩;refine ⟨_,rfl,?_⟩;replace HB:=aE (aD (aX HB) hb);(try clear hb);(try clear hk)))
  go_ret
  exact ⟨bP,aX HB⟩
/-! ### impl_InnerPoints: function 6 -/
def impl_InnerPoints.f (k:Nat) (l0:List (cF)):Option (Int):=(impl_ArePoints.f k l0).bind fun t101=>(if t101=true then ((impl_HullArea.f k l0).bind fun t102=>((impl_EdgePoints.f k l0).bind fun t103=>(some (wrap64 (Int.tdiv (wrap64 ((wrap64 (t102-t103))+2)) 2))))) else (some (-1)))
set_option maxHeartbeats 8000000 in
set_option maxRecDepth 100000 in
theorem tB (k:Nat) (A0:Option Addr) (c0:Nat) (l0:List (cF)) (r:Int) (w:World) (hr0:Kd.C jW w A0 l0.length l0) (hc0:l0.length≤c0) (h:impl_InnerPoints.f k l0=some r) :
  Calls Tryz.prog 6 #[.slice A0 l0.length c0] w fun e w'=>e=.returned (.int .i64 r)∧Below w.heap.size w w':=by
 have HR0:=aE hr0
 have HC0:=aE hc0
 clear hr0 hc0
 have HB:=aE (Below.refl w.heap.size w)
 unfold impl_InnerPoints.f at h
 have H:=h
 clear h
 replace H:=eM H
 obtain ⟨t101,A2,H⟩:=H
 by_cases c3:t101=true
 ·subst c3
  rw [if_pos rfl] at H
  replace H:=eM H
  obtain ⟨t102,A4,H⟩:=H
  replace H:=eM H
  obtain ⟨t103,A5,H⟩:=H
  obtain rfl:=Option.some.inj H
  go_enter Tryz.func6,Tryz.ntmps6
  go_wp2_with (first|((with_reducible refine aJ (f:=30) rfl ?_);refine aV (some 4) Tryz.func30 #[.slice A0 l0.length c0] ?_;(with_reducible refine (cA k _ _ l0 true _ ?side1 ?side2 A2.out).mono ?_);(case side1=>exact kJ HR0.out);(case side2=>exact HC0.out);rintro e w6 ⟨rfl,hb⟩;refine ⟨_,rfl,?_⟩;replace HB:=aE (aD (aX HB) hb);(try clear hb))|((with_reducible refine aJ (f:=31) rfl ?_);refine aV (some 7) Tryz.func31 #[.slice A0 l0.length c0] ?_;(with_reducible refine (wO k _ _ l0 t102 _ ?side1 ?side2 A4.out).mono ?_);(case side1=>exact kJ (Kd.C_below HR0.out HB.out));(case side2=>exact HC0.out);rintro e w7 ⟨rfl,hb⟩;refine ⟨_,rfl,?_⟩;replace HB:=aE (aD (aX HB) hb);(try clear hb))|((with_reducible refine aJ (f:=7) rfl ?_);refine aV (some 9) Tryz.func7 #[.slice A0 l0.length c0] ?_;(with_reducible refine (nE k _ _ l0 t103 _ ?side1 ?side2 A5.out).mono ?_);(case side1=>exact kJ (Kd.C_below HR0.out HB.out));(case side2=>exact HC0.out);rintro e w8 ⟨rfl,hb⟩;refine ⟨_,rfl,?_⟩;replace HB:=aE (aD (aX HB) hb);(try clear hb)))
  go_ret
  exact ⟨bP,aX HB⟩
 ·replace c3:=Bool.eq_false_iff.mpr c3
  subst c3
  rw [if_neg (show ¬ (false=true) by decide)] at H
  obtain rfl:=Option.some.inj H
  go_enter Tryz.func6,Tryz.ntmps6
  go_wp2_with (first|((with_reducible refine aJ (f:=30) rfl ?_);refine aV (some 4) Tryz.func30 #[.slice A0 l0.length c0] ?_;(with_reducible refine (cA k _ _ l0 false _ ?side1 ?side2 A2.out).mono ?_);(case side1=>exact kJ HR0.out);(case side2=>exact HC0.out);rintro e w9 ⟨rfl,hb⟩;refine ⟨_,rfl,?_⟩;replace HB:=aE (aD (aX HB) hb);(try clear hb)))
  go_ret
  exact ⟨bP,aX HB⟩
/-! ### spec_l2Three: function 33 -/
def spec_l2Three.f (k:Nat) (l0:List Int):Option (Int×Int×Int×Int×Int×Int):=(spec_l1New.f k l0).bind fun bt104=>((spec_l2Draw.f k bt104.1 bt104.2.1 bt104.2.2).bind fun bt108=>(if 2<(bt108.1.length:Int) then ((spec_l1Below.f bt104.1 bt108.2.1 bt108.2.2 6).bind fun bt115=>(if bt115.1=0 then ((spec_l1PickInt.f bt104.1 bt115.2.1 bt115.2.2 (([1000,1001,(-1001)]:List Int))).bind fun bt121=>(if 0<(bt108.1.length:Int) then (if 1<(bt108.1.length:Int) then (some ((aC bt108.1 0).f0,(aC bt108.1 0).f1,(aC bt108.1 1).f0,(aC bt108.1 1).f1,bt121.1,(aC bt108.1 2).f1)) else (none)) else (none))) else (if bt115.1=1 then (if 0<(bt108.1.length:Int) then (if 1<(bt108.1.length:Int) then (some ((aC bt108.1 0).f0,(aC bt108.1 0).f1,(aC bt108.1 1).f0,(aC bt108.1 1).f1,(aC bt108.1 0).f0,(aC bt108.1 0).f1)) else (none)) else (none)) else (if bt115.1=2 then (if 1<(bt108.1.length:Int) then (if 0<(bt108.1.length:Int) then (some ((aC bt108.1 0).f0,(aC bt108.1 0).f1,(aC bt108.1 1).f0,(aC bt108.1 1).f1,wrap64 ((wrap64 (2*((aC bt108.1 1).f0)))-((aC bt108.1 0).f0)),wrap64 ((wrap64 (2*((aC bt108.1 1).f1)))-((aC bt108.1 0).f1)))) else (none)) else (none)) else (if 0<(bt108.1.length:Int) then (if 1<(bt108.1.length:Int) then (some ((aC bt108.1 0).f0,(aC bt108.1 0).f1,(aC bt108.1 1).f0,(aC bt108.1 1).f1,(aC bt108.1 2).f0,(aC bt108.1 2).f1)) else (none)) else (none)))))) else (none)))
def rY:Bool×List (List Nat×List Nat):=(true,[([],[]),([0],[0]),([1],[1]),([2],[2]),([3],[3]),([],[]),([5],[5]),([6],[6]),([7],[7]),([4,8],[4,8]),([],[]),([10],[10]),([11],[11]),([12],[12]),([13],[13]),([],[]),([15],[15]),([16],[16]),([17],[17]),([14,18],[14,18]),([9,19],[9,19]),([20,0,1,2,3,4,5,6,7,8,9,10,11,12,13,14,15,16,17,18,19,20],[20])])
def AS:List Nat:=[0,1,3,7,15,0,32,96,224,511,0,1024,3072,7168,15360,0,32768,98304,229376,523264,1048575,2097151]
theorem xX:iQ .any (iS Tryz.f33 10)=rY:=by kernel_rfl
theorem wP:dM rY.2 AS=true:=by kernel_rfl
def rZ:Bool×List (List Nat×List Nat):=(true,[([],[]),([0],[0]),([1],[1]),([],[]),([3],[3]),([4],[4]),([],[]),([2,0,1,2],[2]),([5,7,0,1,2,3,4,5,7],[5]),([6,8,0,1,2,3,4,5,6,7,8],[6])])
def AT:List Nat:=[0,1,3,0,8,24,0,7,191,511]
theorem kU:iQ .any (iS Tryz.f33 11)=rZ:=by kernel_rfl
theorem kK:dM rZ.2 AT=true:=by kernel_rfl
set_option maxHeartbeats 8000000 in
set_option maxRecDepth 100000 in
theorem qE (k:Nat) (A0:Option Addr) (c0:Nat) (l0:List Int) (r1:Int) (r2:Int) (r3:Int) (r4:Int) (r5:Int) (r6:Int) (w:World) (hr0:Kd.C (Kd.int .u8) w A0 l0.length l0) (hc0:l0.length≤c0) (h:spec_l2Three.f k l0=some (r1,r2,r3,r4,r5,r6)) :
  Calls Tryz.prog 33 #[.slice A0 l0.length c0] w fun e w'=>e=.returned (.tuple #[.agg #[.int .i64 r1,.int .i64 r2],.agg #[.int .i64 r3,.int .i64 r4],.agg #[.int .i64 r5,.int .i64 r6]])∧Below w.heap.size w w':=by
 have hu28:=Tryz.underlying28
 have HR0:=aE hr0
 have HC0:=aE hc0
 clear hr0 hc0
 have HB:=aE (Below.refl w.heap.size w)
 unfold spec_l2Three.f at h
 have H:=h
 clear h
 replace H:=eM H
 obtain ⟨⟨t104,t105,t106⟩,A2,H⟩:=H
 try dsimp only at H
 replace H:=eM H
 obtain ⟨⟨t108,t111,t112⟩,A3,H⟩:=H
 try dsimp only at H
 obtain ⟨c4,H⟩:=gQ H
 have c4b0:=decide_eq_true c4
 have c4b1:decide (2<t108.length)=true:=decide_eq_true (by omega)
 clear c4
 replace H:=eM H
 obtain ⟨⟨t115,t116,t117⟩,A5,H⟩:=H
 try dsimp only at H
 have HKEEP:=aE H
 clear H
 go_enter Tryz.func33,Tryz.ntmps33
 go_upto_region 5 with (first|((with_reducible refine aN (N:=2) rfl ?_);refine bV (N:=2) #[.int .i64 0,.int .i64 0] 28 ?_;intro gb101 hg w10 hbox hb;have BK101:=aE (hbox);have GW101:=aE ((dX HB hg));have GE101:=aE ((dX HB hg));replace HB:=aE (aD (aX HB) hb);clear hb hbox hg)|((with_reducible refine aN (N:=3) rfl ?_);refine bV (N:=3) #[.int .i64 0,.int .i64 0] 28 ?_;intro gb102 hg w11 hbox hb;have BK102:=aE (hbox);have GW102:=aE ((dX HB hg));have GE102:=aE ((dX HB hg));replace HB:=aE (aD (aX HB) hb);have NB101_102:=aE ((iX BK101 hg));have NB102_101:=aE ((iY BK101 hg));replace BK101:=aE (bB BK101 hb);clear hb hbox hg)|((with_reducible refine aN (N:=4) rfl ?_);refine bV (N:=4) #[.int .i64 0,.int .i64 0] 28 ?_;intro gb103 hg w12 hbox hb;have BK103:=aE (hbox);have GW103:=aE ((dX HB hg));have GE103:=aE ((dX HB hg));replace HB:=aE (aD (aX HB) hb);have NB101_103:=aE ((iX BK101 hg));have NB103_101:=aE ((iY BK101 hg));replace BK101:=aE (bB BK101 hb);have NB102_103:=aE ((iX BK102 hg));have NB103_102:=aE ((iY BK102 hg));replace BK102:=aE (bB BK102 hb);clear hb hbox hg)|((with_reducible refine aJ (f:=29) rfl ?_);refine aV (some 9) Tryz.func29 #[.slice A0 l0.length c0] ?_;(with_reducible refine (kO k _ _ l0 t104 t105 t106 w _ ?side1 ?side2 ?side3 A2.out).mono ?_);(case side1=>exact aX HB);(case side2=>exact HR0.out);(case side3=>exact HC0.out);rintro e w13 ⟨g107,rfl,hi,hb,hb2⟩;refine ⟨_,rfl,?_⟩;replace HB:=aE (hb);have HI107:=aE (hi);have NB107_101:=aE (cD hi (aZ (g:=gb101) (o:=.cells #[.int .i64 0,.int .i64 0] 28 (0,0)) (fO BK101) hb2) (by decide));have NB101_107:=aE (Ne.symm (cD hi (aZ (g:=gb101) (o:=.cells #[.int .i64 0,.int .i64 0] 28 (0,0)) (fO BK101) hb2) (by decide)));replace BK101:=aE (aZ (g:=gb101) (o:=.cells #[.int .i64 0,.int .i64 0] 28 (0,0)) (fO BK101) hb2);have NB107_102:=aE (cD hi (aZ (g:=gb102) (o:=.cells #[.int .i64 0,.int .i64 0] 28 (0,0)) (fO BK102) hb2) (by decide));have NB102_107:=aE (Ne.symm (cD hi (aZ (g:=gb102) (o:=.cells #[.int .i64 0,.int .i64 0] 28 (0,0)) (fO BK102) hb2) (by decide)));replace BK102:=aE (aZ (g:=gb102) (o:=.cells #[.int .i64 0,.int .i64 0] 28 (0,0)) (fO BK102) hb2);have NB107_103:=aE (cD hi (aZ (g:=gb103) (o:=.cells #[.int .i64 0,.int .i64 0] 28 (0,0)) (fO BK103) hb2) (by decide));have NB103_107:=aE (Ne.symm (cD hi (aZ (g:=gb103) (o:=.cells #[.int .i64 0,.int .i64 0] 28 (0,0)) (fO BK103) hb2) (by decide)));replace BK103:=aE (aZ (g:=gb103) (o:=.cells #[.int .i64 0,.int .i64 0] 28 (0,0)) (fO BK103) hb2);(try clear hb);(try clear hb2);(try clear hk);(try clear hi))|((with_reducible refine aJ (f:=60) rfl ?_);refine aV (some 11) Tryz.func60 #[.pointer (some ⟨g107,0,none⟩)] ?_;(with_reducible refine (lG k g107 t104 t105 t106 t108 t111 t112 w _ ?side1 ?side2 A3.out).mono ?_);(case side1=>exact cQ HI107);(case side2=>exact gP HB (bD HI107.out));rintro e w14 ⟨v109,rfl,ho0,hi,hb,hk⟩;refine ⟨_,rfl,?_⟩;have HO110:=aE (Kd.R_lower (Kd.R_newB (Kd.R_newB (Kd.R_newB ho0 (g:=gb101) (o:=.cells #[.int .i64 0,.int .i64 0] 28 (0,0)) (fO BK101)) (g:=gb102) (o:=.cells #[.int .i64 0,.int .i64 0] 28 (0,0)) (fO BK102)) (g:=gb103) (o:=.cells #[.int .i64 0,.int .i64 0] 28 (0,0)) (fO BK103)) (aT (gP HB (bD HI107.out))));replace BK101:=aE (cM.blk hk (g':=gb101) (o:=.cells #[.int .i64 0,.int .i64 0] 28 (0,0)) (fO BK101) NB101_107.out (by simp));replace BK102:=aE (cM.blk hk (g':=gb102) (o:=.cells #[.int .i64 0,.int .i64 0] 28 (0,0)) (fO BK102) NB102_107.out (by simp));replace BK103:=aE (cM.blk hk (g':=gb103) (o:=.cells #[.int .i64 0,.int .i64 0] 28 (0,0)) (fO BK103) NB103_107.out (by simp));replace HB:=aE (hb);replace HI107:=aE (hi);(try clear hb);(try clear hb2);(try clear hk);(try clear hi);(try clear ho0);obtain ⟨Ao15,co15,eo15⟩:=Kd.R_slice HO110.out;subst eo15;have p113:0≤(2:Int):=(by omega);have q113:2<(t108.length:Int):=bI;obtain ⟨ad113,e113,hx113_0,hx113_1⟩:=bW (Kd.R_reads' HO110.out).2.2 2 p113 q113;cases e113;(try simp only [show (2:Int).toNat=2 from rfl,Nat.reduceMul,Nat.reduceEqDiff,Go.Addr.add,↓reduceIte] at hx113_0);(try simp only [show (2:Int).toNat=2 from rfl,Nat.reduceMul,Nat.reduceEqDiff,Go.Addr.add,↓reduceIte] at hx113_1);have qi113:(2<t108.length)=True:=eq_true (by omega);(try rw [show ((2:Int)).toNat=2 from rfl] at hx113_0);(try rw [show 2*2=4 from rfl] at hx113_0);(try rw [show ((2:Int)).toNat=2 from rfl] at hx113_1);(try rw [show 2*2=4 from rfl] at hx113_1);replace p113:=eq_true p113;replace q113:=eq_true q113)|((with_reducible refine aN (N:=7) rfl ?_);refine bV (N:=7) #[.int .i64 0,.int .i64 0] 28 ?_;intro gb114 hg w16 hbox hb;replace HO110:=aE (Kd.R_below (Kd.R_elderB (bN HO110) gb114 (Nat.le_of_eq hg.symm)) hb);have BK114:=aE (hbox);have GW114:=aE ((by rw [hg];exact (aT (gP HB (bD HI107.out))):w.heap.size≤gb114));have GE114:=aE ((by rw [hg];exact (aT (gP HB (bD HI107.out))):w.heap.size≤gb114));replace HB:=aE (aD (gP HB (bD HI107.out)) hb);have NB101_114:=aE ((iX BK101 hg));have NB114_101:=aE ((iY BK101 hg));replace BK101:=aE (bB BK101 hb);have NB102_114:=aE ((iX BK102 hg));have NB114_102:=aE ((iY BK102 hg));replace BK102:=aE (bB BK102 hb);have NB103_114:=aE ((iX BK103 hg));have NB114_103:=aE ((iY BK103 hg));replace BK103:=aE (bB BK103 hb);have NB107_114:=aE ((by rw [hg];exact Nat.ne_of_lt (yT (show dR w _ g107 t104 t111 t112 from cQ HI107)):g107≠gb114));have NB114_107:=aE ((by rw [hg];exact Nat.ne_of_gt (yT (show dR w _ g107 t104 t111 t112 from cQ HI107)):gb114≠g107));replace HI107:=aE (dR.below (cQ HI107) hb);clear hb hbox hg;have hnb17:=NB114_101.out;have hnc17:=NB101_114.out;have hnb18:=NB114_102.out;have hnc18:=NB102_114.out;have hnb19:=NB114_103.out;have hnc19:=NB103_114.out;have hnb20:=NB114_107.out;have hnc20:=NB107_114.out;have hcz21_0:=aW BK114 0;have hcz21_1:=aW BK114 1;have hfz21_0:=aA BK114.out 0;have hfz21_1:=aA BK114.out 1)|((with_reducible refine aJ (f:=61) rfl ?_);refine aV (some 16) Tryz.func61 #[.pointer (some ⟨g107,0,none⟩),.int .i64 6] ?_;(with_reducible refine (dN g107 t104 t111 t112 6 t115 t116 t117 w _ ?side1 ?side2 A5.out).mono ?_);(case side1=>exact cQ HI107);(case side2=>exact gP HB (bD HI107.out));rintro e w22 ⟨rfl,hi,hb,hk⟩;refine ⟨_,rfl,?_⟩;replace BK101:=aE (cM.blk hk (g':=gb101) (o:=.cells #[.int .i64 0,.int .i64 0] 28 (0,0)) (jR BK101) NB101_107.out (by simp));replace BK102:=aE (cM.blk hk (g':=gb102) (o:=.cells #[.int .i64 0,.int .i64 0] 28 (0,0)) (jR BK102) NB102_107.out (by simp));replace BK103:=aE (cM.blk hk (g':=gb103) (o:=.cells #[.int .i64 0,.int .i64 0] 28 (0,0)) (jR BK103) NB103_107.out (by simp));replace HO110:=aE (Kd.R_mono (Kd.R_keep (dR.apart (show dR w _ g107 t104 t111 t112 from cQ HI107) (by (with_reducible repeat (first|apply kD|apply kE|apply gU));exact (Kd.R_mono (Kd.R_far (p:=⟨gb114,1,none⟩) (Kd.R_far (p:=⟨gb114,0,none⟩) (Kd.R_mono HO110.out (fun k_ hk=>(⟨hk,hk.2⟩:_∧k_≠gb114))) (fun _ hk=>hk.2) (.int .i64 ((aC t108 2).f0))) (fun _ hk=>hk.2) (.int .i64 ((aC t108 2).f1))) (fun _ h_=>h_.1))) (by decide)) hk (fun _ h=>h.2)) (fun _ h=>h.1));replace BK114:=aE (cM.blk hk (g':=gb114) (o:=.cells #[.int .i64 ((aC t108 2).f0),.int .i64 ((aC t108 2).f1)] 28 (0,0)) (jR BK114) NB114_107.out (by simp));replace HB:=aE (hb);replace HI107:=aE (hi);(try clear hb);(try clear hb2);(try clear hk);(try clear hi)))
 have H:=HKEEP.out
 clear HKEEP
 rcases jE H with ⟨c6,H⟩|⟨c6,H⟩
 ·have c6b0:(t115==0)=true:=beq_iff_eq.mpr c6
  have c6b1:(t115 != 0)=false:=bne_eq_false_iff_eq.mpr c6
  clear c6
  obtain ⟨y118,hy118⟩:∃ y_:List Int,y_=(([1000,1001,(-1001)]:List Int)):=⟨_,rfl⟩
  first|(with_reducible replace H:=oO hy118 H)|(with_reducible replace H:=oP hy118 H)|rw [← hy118] at H
  have Ny118:=aE hy118
  clear hy118
  replace H:=eM H
  obtain ⟨⟨t121,t122,t123⟩,A7,H⟩:=H
  try dsimp only at H
  obtain ⟨c8,H⟩:=gQ H
  have c8b0:=decide_eq_true c8
  have c8b1:decide (0<t108.length)=true:=decide_eq_true (by omega)
  clear c8
  obtain ⟨c9,H⟩:=gQ H
  have c9b0:=decide_eq_true c9
  have c9b1:decide (1<t108.length)=true:=decide_eq_true (by omega)
  clear c9
  simp only [Option.some.injEq,Prod.mk.injEq] at H
  obtain ⟨rfl,rfl,rfl,rfl,rfl,rfl⟩:=H
  try go_wp2_with (first|((with_reducible refine aN (N:=20) rfl ?_);refine Kd.R_lit (Kd.int .i64) _ 3 ?hg (N:=20) ?hd (xs:=([1000,1001,(-1001)]:List Int)) (inner:=[.int .i64 1000,.int .i64 1001,.int .i64 (-1001)]) (ok:=fun _=>True) (okp:=fun _=>True) ?hr ?hp (fun _ hk=>hk) trivial (Below.refl _ _) (Nat.le_refl _) (by simp) ?_;(case hd=>rfl);(case hg=>rfl);(case hr=>first|(go_simp;done)|(go_simp;rfl));(case hp=>exact (dG (show Kd.M (Kd.int .i64) _ _ _ 1000 [.int .i64 1000] from rfl) (dG (show Kd.M (Kd.int .i64) _ _ _ 1001 [.int .i64 1001] from rfl) (dG (show Kd.M (Kd.int .i64) _ _ _ (-1001) [.int .i64 (-1001)] from rfl) (kC.none _ _)))));intro v119 w23 ho24 hb hg_ hnew_;clear hg_ hnew_;(first|rw [← Ny118.out] at ho24|(simp only [Int.reduceToNat] at ho24;rw [← Ny118.out] at ho24));replace HO110:=aE (Kd.R_below (bN HO110) hb);have HO120:=aE (Kd.R_lower ho24 (aT (gP HB (bD HI107.out))));replace BK101:=aE (bB BK101 hb);replace BK102:=aE (bB BK102 hb);replace BK103:=aE (bB BK103 hb);replace BK114:=aE (bB BK114 hb);replace HB:=aE (aD (gP HB (bD HI107.out)) hb);replace HI107:=aE (dR.below (cQ HI107) hb);clear hb ho24;obtain ⟨Ao25,co25,eo25⟩:=Kd.R_slice HO120.out;subst eo25)|((with_reducible refine aJ (f:=62) rfl ?_);refine aV (some 21) Tryz.func62 #[.pointer (some ⟨g107,0,none⟩),.slice Ao25 y118.length co25] ?_;(with_reducible refine (nT g107 t104 t116 t117 _ _ y118 t121 t122 t123 w _ ?side1 ?side2 ?side3 ?side4 ?side5 A7.out).mono ?_);(case side1=>exact cQ HI107);(case side2=>exact gP HB (bD HI107.out));(case side3=>exact kJ (Kd.R_reads' HO120.out).2.2);(case side4=>exact (Kd.R_reads' HO120.out).2.1);(case side5=>exact FL (mP HI107.out HO120.out (by decide)));rintro e w26 ⟨rfl,hi,hb,hk⟩;refine ⟨_,rfl,?_⟩;replace BK101:=aE (cM.blk hk (g':=gb101) (o:=.cells #[.int .i64 0,.int .i64 0] 28 (0,0)) (fO BK101) NB101_107.out (by simp));replace BK102:=aE (cM.blk hk (g':=gb102) (o:=.cells #[.int .i64 0,.int .i64 0] 28 (0,0)) (fO BK102) NB102_107.out (by simp));replace BK103:=aE (cM.blk hk (g':=gb103) (o:=.cells #[.int .i64 0,.int .i64 0] 28 (0,0)) (fO BK103) NB103_107.out (by simp));replace HO110:=aE (Kd.R_mono (Kd.R_keep (dR.apart (show dR w _ g107 t104 t116 t117 from cQ HI107) (bN HO110) (by decide)) hk (fun _ h=>h.2)) (fun _ h=>h.1));replace BK114:=aE (cM.blk hk (g':=gb114) (o:=.cells #[.int .i64 ((aC t108 2).f0),.int .i64 ((aC t108 2).f1)] 28 (0,0)) (fO BK114) NB114_107.out (by simp));replace HO120:=aE (Kd.R_mono (Kd.R_keep (dR.apart (show dR w _ g107 t104 t116 t117 from cQ HI107) (bN HO120) (by decide)) hk (fun _ h=>h.2)) (fun _ h=>h.1));replace HB:=aE (hb);replace HI107:=aE (hi);(try clear hb);(try clear hb2);(try clear hk);(try clear hi);have hcz27_0:=aW BK114 0;have hcz27_1:=aW BK114 1;have hfz27_0:=aA BK114.out 0;have hfz27_1:=aA BK114.out 1))
  replace HO110:Aside0 (Kd.R jW 28 (w26.setCell ⟨gb114,0,none⟩ (.int .i64 t121)) w.heap.size (fun k_=>k_≠gb101∧k_≠gb102∧k_≠gb103∧k_≠gb114) (.slice (some ad113) t108.length co15) t108):=⟨by (with_reducible repeat (first|apply kD|apply kE|apply gU));exact Kd.R_mono (Kd.R_far (p:=⟨gb114,0,none⟩) (Kd.R_mono HO110.out (fun k_ hk=>(⟨hk,hk.2⟩:_∧k_≠gb114))) (fun _ hk=>hk.2) (.int .i64 t121)) (fun _ hk=>⟨hk.1.1.1.1.2,⟨hk.1.1.1.2,⟨hk.1.1.2,hk.1.2⟩⟩⟩)⟩
  replace HO120:Aside0 (Kd.R (Kd.int .i64) 3 (w26.setCell ⟨gb114,0,none⟩ (.int .i64 t121)) w.heap.size (fun _=>True) (.slice Ao25 y118.length co25) y118):=⟨by (with_reducible repeat (first|apply kD|apply kE|apply gU));exact Kd.R_mono (Kd.R_far (p:=⟨gb114,0,none⟩) (Kd.R_types HO120.out BK114.out (by decide)) (fun _ hk=>hk.2) (.int .i64 t121)) (fun _ hk=>trivial)⟩
  replace BK101:Aside0 ((w26.setCell ⟨gb114,0,none⟩ (.int .i64 t121)).heap[gb101]? = some (.cells #[.int .i64 0,.int .i64 0] 28 (0,0))):=⟨jR BK101⟩
  replace BK102:Aside0 ((w26.setCell ⟨gb114,0,none⟩ (.int .i64 t121)).heap[gb102]? = some (.cells #[.int .i64 0,.int .i64 0] 28 (0,0))):=⟨jR BK102⟩
  replace BK103:Aside0 ((w26.setCell ⟨gb114,0,none⟩ (.int .i64 t121)).heap[gb103]? = some (.cells #[.int .i64 0,.int .i64 0] 28 (0,0))):=⟨jR BK103⟩
  replace BK114:Aside0 ((w26.setCell ⟨gb114,0,none⟩ (.int .i64 t121)).heap[gb114]? = some (.cells #[.int .i64 t121,.int .i64 ((aC t108 2).f1)] 28 (0,0))):=⟨jR BK114⟩
  replace HB:Aside0 (Below w.heap.size w (w26.setCell ⟨gb114,0,none⟩ (.int .i64 t121))):=⟨gP HB (bD HI107.out)⟩
  replace HI107:Aside0 (dR w (w26.setCell ⟨gb114,0,none⟩ (.int .i64 t121)) g107 t104 t122 t123):=⟨cQ HI107⟩
  generalize (w26.setCell ⟨gb114,0,none⟩ (.int .i64 t121))=w28 at HO110 HO120 BK101 BK102 BK103 BK114 HI107 HB ⊢
  replace HO110:=aE (gU HO110.out)
  replace HO120:=aE (gU HO120.out)
  replace BK101:=aE (aI BK101.out)
  replace BK102:=aE (aI BK102.out)
  replace BK103:=aE (aI BK103.out)
  replace BK114:=aE (aI BK114.out)
  replace HI107:=aE (dR.drew HI107.out)
  replace HB:=aE (jK HB.out)
  have p124:0≤(0:Int):=(by omega)
  have q124:0<(t108.length:Int):=bI
  obtain ⟨ad124,e124,hx124_0,hx124_1⟩:=bW (Kd.R_reads' HO110.out).2.2 0 p124 q124
  obtain rfl:ad113=ad124:=(by injection e124)
  have qi124:(0<t108.length)=True:=eq_true (by omega)
  (try rw [show ((0:Int)).toNat=0 from rfl] at hx124_0)
  (try rw [show 0*2=0 from rfl] at hx124_0)
  (try rw [Addr.add_zero'] at hx124_0)
  (try rw [show ((0:Int)).toNat=0 from rfl] at hx124_1)
  (try rw [show 0*2=0 from rfl] at hx124_1)
  (try rw [Addr.add_zero'] at hx124_1)
  replace p124:=eq_true p124
  replace q124:=eq_true q124
  have p125:0≤(1:Int):=(by omega)
  have q125:1<(t108.length:Int):=bI
  obtain ⟨ad125,e125,hx125_0,hx125_1⟩:=bW (Kd.R_reads' HO110.out).2.2 1 p125 q125
  obtain rfl:ad113=ad125:=(by injection e125)
  (try simp only [show (1:Int).toNat=1 from rfl,Nat.reduceMul,Nat.reduceEqDiff,Go.Addr.add,↓reduceIte] at hx125_0)
  (try simp only [show (1:Int).toNat=1 from rfl,Nat.reduceMul,Nat.reduceEqDiff,Go.Addr.add,↓reduceIte] at hx125_1)
  have qi125:(1<t108.length)=True:=eq_true (by omega)
  (try rw [show ((1:Int)).toNat=1 from rfl] at hx125_0)
  (try rw [show 1*2=2 from rfl] at hx125_0)
  (try rw [show ((1:Int)).toNat=1 from rfl] at hx125_1)
  (try rw [show 1*2=2 from rfl] at hx125_1)
  replace p125:=eq_true p125
  replace q125:=eq_true q125
  refine dA (n:=10) (S:=fun w'=>w'.cell? ⟨gb114,0,none⟩=some (.int .i64 t121)∧w'.cell? ⟨gb114,1,none⟩=some (.int .i64 ((aC t108 2).f1))∧w'.cell? ad113=some (.int .i64 ((aC t108 0).f0))∧w'.cell? ⟨ad113.block,ad113.off+1,none⟩=some (.int .i64 ((aC t108 0).f1))∧w'.cell? ⟨ad113.block,ad113.off+2,none⟩=some (.int .i64 ((aC t108 1).f0))∧w'.cell? ⟨ad113.block,ad113.off+2+1,none⟩=some (.int .i64 ((aC t108 1).f1))) (ds:=[]) (bm 10 0) (by kernel_rfl) rfl rfl ⟨aW BK114 0,aW BK114 1,hx124_0,hx124_1,hx125_0,hx125_1⟩ (fun hHeld=>?_);refine bO kU kK (fun HT_ HW_=>?_)
  generalize w28.drew=w29 at HO110 HO120 BK101 BK102 BK103 BK114 HI107 HB hx124_0 hx124_1 hx125_0 hx125_1 hHeld ⊢
  refine bU ((0,0,51,1)::(0,1,52,3)::(0,3,54,11)::(0,4,55,27)::(2,2,53,31)::(2,5,56,63)::(2,6,57,127)::[]) ?_
  iterate 7 (first|refine jT HT_ ?_|refine pZ HT_ HW_ hHeld ?_)
  refine aU ?_
  refine dQ (i:=7) (N:=none) (bm 10 255) rfl rfl (bJ HT_.out (by kernel_rfl)) (by decide) (fun K hK=>?_)
  have hs30:w29.cell? ⟨gb101,0,none⟩=some (.int .i64 0):=aW BK101 0
  have hfs30:=aA BK101.out 0
  have hns30_1:=NB102_101.out
  have hns30_2:=NB103_101.out
  have hns30_3:=NB114_101.out
  have hms30_1:=NB101_102.out
  have hms30_2:=NB101_103.out
  have hms30_3:=NB101_114.out
  have hs31:w29.cell? ⟨gb101,1,none⟩=some (.int .i64 0):=aW BK101 1
  have hfs31:=aA BK101.out 1
  have hns31_1:=NB102_101.out
  have hns31_2:=NB103_101.out
  have hns31_3:=NB114_101.out
  have hms31_1:=NB101_102.out
  have hms31_2:=NB101_103.out
  have hms31_3:=NB101_114.out
  refine kY (w1:=?_) (by rfl) rfl ?_ ?_
  rotate_left
  ·go_simp
   rfl
  refine hK.out _ _ ⟨(lT NB114_101 ((lT NB114_101 hHeld.1))),(lT NB114_101 ((lT NB114_101 hHeld.2.1))),(jB (Kd.own_blk (Kd.R_away HO110.out (fun _ hk=>hk.1))) ((jB (Kd.own_blk (Kd.R_away HO110.out (fun _ hk=>hk.1))) hHeld.2.2.1))),(jB (Kd.own_blk (Kd.R_away HO110.out (fun _ hk=>hk.1))) ((jB (Kd.own_blk (Kd.R_away HO110.out (fun _ hk=>hk.1))) hHeld.2.2.2.1))),(jB (Kd.own_blk (Kd.R_away HO110.out (fun _ hk=>hk.1))) ((jB (Kd.own_blk (Kd.R_away HO110.out (fun _ hk=>hk.1))) hHeld.2.2.2.2.1))),(jB (Kd.own_blk (Kd.R_away HO110.out (fun _ hk=>hk.1))) ((jB (Kd.own_blk (Kd.R_away HO110.out (fun _ hk=>hk.1))) hHeld.2.2.2.2.2)))⟩ (fun hHeld=>?_)
  clear hK K
  refine dQ (i:=8) (N:=none) (bm 10 511) rfl rfl (bJ HT_.out (by kernel_rfl)) (by decide) (fun K hK=>?_)
  have hs32:w29.cell? ⟨gb102,0,none⟩=some (.int .i64 0):=aW BK102 0
  have hfs32:=aA BK102.out 0
  have hns32_0:=NB101_102.out
  have hns32_2:=NB103_102.out
  have hns32_3:=NB114_102.out
  have hms32_0:=NB102_101.out
  have hms32_2:=NB102_103.out
  have hms32_3:=NB102_114.out
  have hs33:w29.cell? ⟨gb102,1,none⟩=some (.int .i64 0):=aW BK102 1
  have hfs33:=aA BK102.out 1
  have hns33_0:=NB101_102.out
  have hns33_2:=NB103_102.out
  have hns33_3:=NB114_102.out
  have hms33_0:=NB102_101.out
  have hms33_2:=NB102_103.out
  have hms33_3:=NB102_114.out
  refine kY (w1:=?_) (by rfl) rfl ?_ ?_
  rotate_left
  ·go_simp
   rfl
  refine hK.out _ _ ⟨(lT NB114_102 ((lT NB114_102 hHeld.1))),(lT NB114_102 ((lT NB114_102 hHeld.2.1))),(jB (Kd.own_blk (Kd.R_away HO110.out (fun _ hk=>hk.2.1))) ((jB (Kd.own_blk (Kd.R_away HO110.out (fun _ hk=>hk.2.1))) hHeld.2.2.1))),(jB (Kd.own_blk (Kd.R_away HO110.out (fun _ hk=>hk.2.1))) ((jB (Kd.own_blk (Kd.R_away HO110.out (fun _ hk=>hk.2.1))) hHeld.2.2.2.1))),(jB (Kd.own_blk (Kd.R_away HO110.out (fun _ hk=>hk.2.1))) ((jB (Kd.own_blk (Kd.R_away HO110.out (fun _ hk=>hk.2.1))) hHeld.2.2.2.2.1))),(jB (Kd.own_blk (Kd.R_away HO110.out (fun _ hk=>hk.2.1))) ((jB (Kd.own_blk (Kd.R_away HO110.out (fun _ hk=>hk.2.1))) hHeld.2.2.2.2.2)))⟩ (fun hHeld=>?_)
  clear hK K
  refine dQ (i:=9) (N:=none) (bm 10 1023) rfl rfl (bJ HT_.out (by kernel_rfl)) (by decide) (fun K hK=>?_)
  have hs34:w29.cell? ⟨gb103,0,none⟩=some (.int .i64 0):=aW BK103 0
  have hfs34:=aA BK103.out 0
  have hns34_0:=NB101_103.out
  have hns34_1:=NB102_103.out
  have hns34_3:=NB114_103.out
  have hms34_0:=NB103_101.out
  have hms34_1:=NB103_102.out
  have hms34_3:=NB103_114.out
  have hs35:w29.cell? ⟨gb103,1,none⟩=some (.int .i64 0):=aW BK103 1
  have hfs35:=aA BK103.out 1
  have hns35_0:=NB101_103.out
  have hns35_1:=NB102_103.out
  have hns35_3:=NB114_103.out
  have hms35_0:=NB103_101.out
  have hms35_1:=NB103_102.out
  have hms35_3:=NB103_114.out
  refine kY (w1:=?_) (by rfl) rfl ?_ ?_
  rotate_left
  ·go_simp
   rfl
  refine hK.out _ _ ⟨(lT NB114_103 ((lT NB114_103 hHeld.1))),(lT NB114_103 ((lT NB114_103 hHeld.2.1))),(jB (Kd.own_blk (Kd.R_away HO110.out (fun _ hk=>hk.2.2.1))) ((jB (Kd.own_blk (Kd.R_away HO110.out (fun _ hk=>hk.2.2.1))) hHeld.2.2.1))),(jB (Kd.own_blk (Kd.R_away HO110.out (fun _ hk=>hk.2.2.1))) ((jB (Kd.own_blk (Kd.R_away HO110.out (fun _ hk=>hk.2.2.1))) hHeld.2.2.2.1))),(jB (Kd.own_blk (Kd.R_away HO110.out (fun _ hk=>hk.2.2.1))) ((jB (Kd.own_blk (Kd.R_away HO110.out (fun _ hk=>hk.2.2.1))) hHeld.2.2.2.2.1))),(jB (Kd.own_blk (Kd.R_away HO110.out (fun _ hk=>hk.2.2.1))) ((jB (Kd.own_blk (Kd.R_away HO110.out (fun _ hk=>hk.2.2.1))) hHeld.2.2.2.2.2)))⟩ (fun hHeld=>?_)
  clear hK K
  refine eN (cK HT_.out (by kernel_rfl)) ?_
  try go_wp2
  refine bodyPost_ret (mN (rs:=[.cell 2 28,.cell 3 28,.cell 4 28]) rfl (by simp) (.cell gb101 28 #[.int .i64 ((aC t108 0).f0),.int .i64 ((aC t108 0).f1)] (0,0) _ rfl (jR BK101) Tryz.underlying28 rfl (by kernel_rfl) (.cell gb102 28 #[.int .i64 ((aC t108 1).f0),.int .i64 ((aC t108 1).f1)] (0,0) _ rfl (by (with_reducible repeat (first|refine aM ?_ _|refine aI ?_|refine aK ?_ _));refine bC ?_ NB102_103.out _;(with_reducible repeat (first|refine aM ?_ _|refine aI ?_|refine aK ?_ _));refine bC ?_ NB102_103.out _;(with_reducible repeat (first|refine aM ?_ _|refine aI ?_|refine aK ?_ _));refine bQ (cs:=#[.int .i64 ((aC t108 1).f0),.int .i64 0]) ?_ 1 _ rfl;(with_reducible repeat (first|refine aM ?_ _|refine aI ?_|refine aK ?_ _));refine bQ (cs:=#[.int .i64 0,.int .i64 0]) ?_ 0 _ rfl;(with_reducible repeat (first|refine aM ?_ _|refine aI ?_|refine aK ?_ _));refine bC ?_ NB102_101.out _;(with_reducible repeat (first|refine aM ?_ _|refine aI ?_|refine aK ?_ _));refine bC ?_ NB102_101.out _;(with_reducible repeat (first|refine aM ?_ _|refine aI ?_|refine aK ?_ _));exact BK102.out) Tryz.underlying28 rfl (by kernel_rfl) (.cell gb103 28 #[.int .i64 t121,.int .i64 ((aC t108 2).f1)] (0,0) _ rfl (by (with_reducible repeat (first|refine aM ?_ _|refine aI ?_|refine aK ?_ _));refine bQ (cs:=#[.int .i64 t121,.int .i64 0]) ?_ 1 _ rfl;(with_reducible repeat (first|refine aM ?_ _|refine aI ?_|refine aK ?_ _));refine bQ (cs:=#[.int .i64 0,.int .i64 0]) ?_ 0 _ rfl;(with_reducible repeat (first|refine aM ?_ _|refine aI ?_|refine aK ?_ _));refine bC ?_ NB103_102.out _;(with_reducible repeat (first|refine aM ?_ _|refine aI ?_|refine aK ?_ _));refine bC ?_ NB103_102.out _;(with_reducible repeat (first|refine aM ?_ _|refine aI ?_|refine aK ?_ _));refine bC ?_ NB103_101.out _;(with_reducible repeat (first|refine aM ?_ _|refine aI ?_|refine aK ?_ _));refine bC ?_ NB103_101.out _;(with_reducible repeat (first|refine aM ?_ _|refine aI ?_|refine aK ?_ _));exact BK103.out) Tryz.underlying28 rfl (by kernel_rfl) .nil)))) rfl ?_
  exact ⟨bP,gP HB (bD HI107.out)⟩
 ·have c6b0:(t115==0)=false:=beq_eq_false_iff_ne.mpr c6
  have c6b1:(t115 != 0)=true:=bne_iff_ne.mpr c6
  rcases jE H with ⟨c36,H⟩|⟨c36,H⟩
  ·have c36b0:(t115==1)=true:=beq_iff_eq.mpr c36
   have c36b1:(t115 != 1)=false:=bne_eq_false_iff_eq.mpr c36
   clear c36
   obtain ⟨c37,H⟩:=gQ H
   have c37b0:=decide_eq_true c37
   have c37b1:decide (0<t108.length)=true:=decide_eq_true (by omega)
   clear c37
   obtain ⟨c38,H⟩:=gQ H
   have c38b0:=decide_eq_true c38
   have c38b1:decide (1<t108.length)=true:=decide_eq_true (by omega)
   clear c38
   simp only [Option.some.injEq,Prod.mk.injEq] at H
   obtain ⟨rfl,rfl,rfl,rfl,rfl,rfl⟩:=H
   have p126:0≤(0:Int):=(by omega)
   have q126:0<(t108.length:Int):=bI
   obtain ⟨ad126,e126,hx126_0,hx126_1⟩:=bW (Kd.R_reads' HO110.out).2.2 0 p126 q126
   obtain rfl:ad113=ad126:=(by injection e126)
   have qi126:(0<t108.length)=True:=eq_true (by omega)
   (try rw [show ((0:Int)).toNat=0 from rfl] at hx126_0)
   (try rw [show 0*2=0 from rfl] at hx126_0)
   (try rw [Addr.add_zero'] at hx126_0)
   (try rw [show ((0:Int)).toNat=0 from rfl] at hx126_1)
   (try rw [show 0*2=0 from rfl] at hx126_1)
   (try rw [Addr.add_zero'] at hx126_1)
   replace p126:=eq_true p126
   replace q126:=eq_true q126
   have hcz52_0:=aW BK114 0
   have hcz52_1:=aW BK114 1
   have hfz52_0:=aA BK114.out 0
   have hfz52_1:=aA BK114.out 1
   try go_wp2
   replace HO110:Aside0 (Kd.R jW 28 ((w22.setCell ⟨gb114,0,none⟩ (.int .i64 ((aC t108 0).f0))).setCell ⟨gb114,1,none⟩ (.int .i64 ((aC t108 0).f1))) w.heap.size (fun k_=>k_≠gb101∧k_≠gb102∧k_≠gb103∧k_≠gb114) (.slice (some ad113) t108.length co15) t108):=⟨by (with_reducible repeat (first|apply kD|apply kE|apply gU));exact Kd.R_mono (Kd.R_far (p:=⟨gb114,1,none⟩) (Kd.R_far (p:=⟨gb114,0,none⟩) (Kd.R_mono HO110.out (fun k_ hk=>(⟨hk,hk.2⟩:_∧k_≠gb114))) (fun _ hk=>hk.2) (.int .i64 ((aC t108 0).f0))) (fun _ hk=>hk.2) (.int .i64 ((aC t108 0).f1))) (fun _ hk=>⟨hk.1.1.1.1.2,⟨hk.1.1.1.2,⟨hk.1.1.2,hk.1.2⟩⟩⟩)⟩
   replace BK101:Aside0 (((w22.setCell ⟨gb114,0,none⟩ (.int .i64 ((aC t108 0).f0))).setCell ⟨gb114,1,none⟩ (.int .i64 ((aC t108 0).f1))).heap[gb101]? = some (.cells #[.int .i64 0,.int .i64 0] 28 (0,0))):=⟨jR BK101⟩
   replace BK102:Aside0 (((w22.setCell ⟨gb114,0,none⟩ (.int .i64 ((aC t108 0).f0))).setCell ⟨gb114,1,none⟩ (.int .i64 ((aC t108 0).f1))).heap[gb102]? = some (.cells #[.int .i64 0,.int .i64 0] 28 (0,0))):=⟨jR BK102⟩
   replace BK103:Aside0 (((w22.setCell ⟨gb114,0,none⟩ (.int .i64 ((aC t108 0).f0))).setCell ⟨gb114,1,none⟩ (.int .i64 ((aC t108 0).f1))).heap[gb103]? = some (.cells #[.int .i64 0,.int .i64 0] 28 (0,0))):=⟨jR BK103⟩
   replace BK114:Aside0 (((w22.setCell ⟨gb114,0,none⟩ (.int .i64 ((aC t108 0).f0))).setCell ⟨gb114,1,none⟩ (.int .i64 ((aC t108 0).f1))).heap[gb114]? = some (.cells #[.int .i64 ((aC t108 0).f0),.int .i64 ((aC t108 0).f1)] 28 (0,0))):=⟨jR BK114⟩
   replace HB:Aside0 (Below w.heap.size w ((w22.setCell ⟨gb114,0,none⟩ (.int .i64 ((aC t108 0).f0))).setCell ⟨gb114,1,none⟩ (.int .i64 ((aC t108 0).f1)))):=⟨gP HB (bD HI107.out)⟩
   replace HI107:Aside0 (dR w ((w22.setCell ⟨gb114,0,none⟩ (.int .i64 ((aC t108 0).f0))).setCell ⟨gb114,1,none⟩ (.int .i64 ((aC t108 0).f1))) g107 t104 t116 t117):=⟨cQ HI107⟩
   generalize ((w22.setCell ⟨gb114,0,none⟩ (.int .i64 ((aC t108 0).f0))).setCell ⟨gb114,1,none⟩ (.int .i64 ((aC t108 0).f1)))=w53 at HO110 BK101 BK102 BK103 BK114 HI107 HB ⊢
   replace HO110:=aE (gU HO110.out)
   replace BK101:=aE (aI BK101.out)
   replace BK102:=aE (aI BK102.out)
   replace BK103:=aE (aI BK103.out)
   replace BK114:=aE (aI BK114.out)
   replace HI107:=aE (dR.drew HI107.out)
   replace HB:=aE (jK HB.out)
   have p127:0≤(0:Int):=(by omega)
   have q127:0<(t108.length:Int):=bI
   obtain ⟨ad127,e127,hx127_0,hx127_1⟩:=bW (Kd.R_reads' HO110.out).2.2 0 p127 q127
   obtain rfl:ad113=ad127:=(by injection e127)
   have qi127:(0<t108.length)=True:=eq_true (by omega)
   (try rw [show ((0:Int)).toNat=0 from rfl] at hx127_0)
   (try rw [show 0*2=0 from rfl] at hx127_0)
   (try rw [Addr.add_zero'] at hx127_0)
   (try rw [show ((0:Int)).toNat=0 from rfl] at hx127_1)
   (try rw [show 0*2=0 from rfl] at hx127_1)
   (try rw [Addr.add_zero'] at hx127_1)
   replace p127:=eq_true p127
   replace q127:=eq_true q127
   have p128:0≤(1:Int):=(by omega)
   have q128:1<(t108.length:Int):=bI
   obtain ⟨ad128,e128,hx128_0,hx128_1⟩:=bW (Kd.R_reads' HO110.out).2.2 1 p128 q128
   obtain rfl:ad113=ad128:=(by injection e128)
   (try simp only [show (1:Int).toNat=1 from rfl,Nat.reduceMul,Nat.reduceEqDiff,Go.Addr.add,↓reduceIte] at hx128_0)
   (try simp only [show (1:Int).toNat=1 from rfl,Nat.reduceMul,Nat.reduceEqDiff,Go.Addr.add,↓reduceIte] at hx128_1)
   have qi128:(1<t108.length)=True:=eq_true (by omega)
   (try rw [show ((1:Int)).toNat=1 from rfl] at hx128_0)
   (try rw [show 1*2=2 from rfl] at hx128_0)
   (try rw [show ((1:Int)).toNat=1 from rfl] at hx128_1)
   (try rw [show 1*2=2 from rfl] at hx128_1)
   replace p128:=eq_true p128
   replace q128:=eq_true q128
   refine dA (n:=10) (S:=fun w'=>w'.cell? ⟨gb114,0,none⟩=some (.int .i64 ((aC t108 0).f0))∧w'.cell? ⟨gb114,1,none⟩=some (.int .i64 ((aC t108 0).f1))∧w'.cell? ad113=some (.int .i64 ((aC t108 0).f0))∧w'.cell? ⟨ad113.block,ad113.off+1,none⟩=some (.int .i64 ((aC t108 0).f1))∧w'.cell? ⟨ad113.block,ad113.off+2,none⟩=some (.int .i64 ((aC t108 1).f0))∧w'.cell? ⟨ad113.block,ad113.off+2+1,none⟩=some (.int .i64 ((aC t108 1).f1))) (ds:=[]) (bm 10 0) (by kernel_rfl) rfl rfl ⟨aW BK114 0,aW BK114 1,hx127_0,hx127_1,hx128_0,hx128_1⟩ (fun hHeld=>?_);refine bO kU kK (fun HT_ HW_=>?_)
   generalize w53.drew=w54 at HO110 BK101 BK102 BK103 BK114 HI107 HB hx127_0 hx127_1 hx128_0 hx128_1 hHeld ⊢
   refine bU ((0,0,51,1)::(0,1,52,3)::(0,3,54,11)::(0,4,55,27)::(2,2,53,31)::(2,5,56,63)::(2,6,57,127)::[]) ?_
   iterate 7 (first|refine jT HT_ ?_|refine pZ HT_ HW_ hHeld ?_)
   refine aU ?_
   refine dQ (i:=7) (N:=none) (bm 10 255) rfl rfl (bJ HT_.out (by kernel_rfl)) (by decide) (fun K hK=>?_)
   have hs55:w54.cell? ⟨gb101,0,none⟩=some (.int .i64 0):=aW BK101 0
   have hfs55:=aA BK101.out 0
   have hns55_1:=NB102_101.out
   have hns55_2:=NB103_101.out
   have hns55_3:=NB114_101.out
   have hms55_1:=NB101_102.out
   have hms55_2:=NB101_103.out
   have hms55_3:=NB101_114.out
   have hs56:w54.cell? ⟨gb101,1,none⟩=some (.int .i64 0):=aW BK101 1
   have hfs56:=aA BK101.out 1
   have hns56_1:=NB102_101.out
   have hns56_2:=NB103_101.out
   have hns56_3:=NB114_101.out
   have hms56_1:=NB101_102.out
   have hms56_2:=NB101_103.out
   have hms56_3:=NB101_114.out
   refine kY (w1:=?_) (by rfl) rfl ?_ ?_
   rotate_left
   ·go_simp
    rfl
   refine hK.out _ _ ⟨(lT NB114_101 ((lT NB114_101 hHeld.1))),(lT NB114_101 ((lT NB114_101 hHeld.2.1))),(jB (Kd.own_blk (Kd.R_away HO110.out (fun _ hk=>hk.1))) ((jB (Kd.own_blk (Kd.R_away HO110.out (fun _ hk=>hk.1))) hHeld.2.2.1))),(jB (Kd.own_blk (Kd.R_away HO110.out (fun _ hk=>hk.1))) ((jB (Kd.own_blk (Kd.R_away HO110.out (fun _ hk=>hk.1))) hHeld.2.2.2.1))),(jB (Kd.own_blk (Kd.R_away HO110.out (fun _ hk=>hk.1))) ((jB (Kd.own_blk (Kd.R_away HO110.out (fun _ hk=>hk.1))) hHeld.2.2.2.2.1))),(jB (Kd.own_blk (Kd.R_away HO110.out (fun _ hk=>hk.1))) ((jB (Kd.own_blk (Kd.R_away HO110.out (fun _ hk=>hk.1))) hHeld.2.2.2.2.2)))⟩ (fun hHeld=>?_)
   clear hK K
   refine dQ (i:=8) (N:=none) (bm 10 511) rfl rfl (bJ HT_.out (by kernel_rfl)) (by decide) (fun K hK=>?_)
   have hs57:w54.cell? ⟨gb102,0,none⟩=some (.int .i64 0):=aW BK102 0
   have hfs57:=aA BK102.out 0
   have hns57_0:=NB101_102.out
   have hns57_2:=NB103_102.out
   have hns57_3:=NB114_102.out
   have hms57_0:=NB102_101.out
   have hms57_2:=NB102_103.out
   have hms57_3:=NB102_114.out
   have hs58:w54.cell? ⟨gb102,1,none⟩=some (.int .i64 0):=aW BK102 1
   have hfs58:=aA BK102.out 1
   have hns58_0:=NB101_102.out
   have hns58_2:=NB103_102.out
   have hns58_3:=NB114_102.out
   have hms58_0:=NB102_101.out
   have hms58_2:=NB102_103.out
   have hms58_3:=NB102_114.out
   refine kY (w1:=?_) (by rfl) rfl ?_ ?_
   rotate_left
   ·go_simp
    rfl
   refine hK.out _ _ ⟨(lT NB114_102 ((lT NB114_102 hHeld.1))),(lT NB114_102 ((lT NB114_102 hHeld.2.1))),(jB (Kd.own_blk (Kd.R_away HO110.out (fun _ hk=>hk.2.1))) ((jB (Kd.own_blk (Kd.R_away HO110.out (fun _ hk=>hk.2.1))) hHeld.2.2.1))),(jB (Kd.own_blk (Kd.R_away HO110.out (fun _ hk=>hk.2.1))) ((jB (Kd.own_blk (Kd.R_away HO110.out (fun _ hk=>hk.2.1))) hHeld.2.2.2.1))),(jB (Kd.own_blk (Kd.R_away HO110.out (fun _ hk=>hk.2.1))) ((jB (Kd.own_blk (Kd.R_away HO110.out (fun _ hk=>hk.2.1))) hHeld.2.2.2.2.1))),(jB (Kd.own_blk (Kd.R_away HO110.out (fun _ hk=>hk.2.1))) ((jB (Kd.own_blk (Kd.R_away HO110.out (fun _ hk=>hk.2.1))) hHeld.2.2.2.2.2)))⟩ (fun hHeld=>?_)
   clear hK K
   refine dQ (i:=9) (N:=none) (bm 10 1023) rfl rfl (bJ HT_.out (by kernel_rfl)) (by decide) (fun K hK=>?_)
   have hs59:w54.cell? ⟨gb103,0,none⟩=some (.int .i64 0):=aW BK103 0
   have hfs59:=aA BK103.out 0
   have hns59_0:=NB101_103.out
   have hns59_1:=NB102_103.out
   have hns59_3:=NB114_103.out
   have hms59_0:=NB103_101.out
   have hms59_1:=NB103_102.out
   have hms59_3:=NB103_114.out
   have hs60:w54.cell? ⟨gb103,1,none⟩=some (.int .i64 0):=aW BK103 1
   have hfs60:=aA BK103.out 1
   have hns60_0:=NB101_103.out
   have hns60_1:=NB102_103.out
   have hns60_3:=NB114_103.out
   have hms60_0:=NB103_101.out
   have hms60_1:=NB103_102.out
   have hms60_3:=NB103_114.out
   refine kY (w1:=?_) (by rfl) rfl ?_ ?_
   rotate_left
   ·go_simp
    rfl
   refine hK.out _ _ ⟨(lT NB114_103 ((lT NB114_103 hHeld.1))),(lT NB114_103 ((lT NB114_103 hHeld.2.1))),(jB (Kd.own_blk (Kd.R_away HO110.out (fun _ hk=>hk.2.2.1))) ((jB (Kd.own_blk (Kd.R_away HO110.out (fun _ hk=>hk.2.2.1))) hHeld.2.2.1))),(jB (Kd.own_blk (Kd.R_away HO110.out (fun _ hk=>hk.2.2.1))) ((jB (Kd.own_blk (Kd.R_away HO110.out (fun _ hk=>hk.2.2.1))) hHeld.2.2.2.1))),(jB (Kd.own_blk (Kd.R_away HO110.out (fun _ hk=>hk.2.2.1))) ((jB (Kd.own_blk (Kd.R_away HO110.out (fun _ hk=>hk.2.2.1))) hHeld.2.2.2.2.1))),(jB (Kd.own_blk (Kd.R_away HO110.out (fun _ hk=>hk.2.2.1))) ((jB (Kd.own_blk (Kd.R_away HO110.out (fun _ hk=>hk.2.2.1))) hHeld.2.2.2.2.2)))⟩ (fun hHeld=>?_)
   clear hK K
   refine eN (cK HT_.out (by kernel_rfl)) ?_
   try go_wp2
   refine bodyPost_ret (mN (rs:=[.cell 2 28,.cell 3 28,.cell 4 28]) rfl (by simp) (.cell gb101 28 #[.int .i64 ((aC t108 0).f0),.int .i64 ((aC t108 0).f1)] (0,0) _ rfl (jR BK101) Tryz.underlying28 rfl (by kernel_rfl) (.cell gb102 28 #[.int .i64 ((aC t108 1).f0),.int .i64 ((aC t108 1).f1)] (0,0) _ rfl (by (with_reducible repeat (first|refine aM ?_ _|refine aI ?_|refine aK ?_ _));refine bC ?_ NB102_103.out _;(with_reducible repeat (first|refine aM ?_ _|refine aI ?_|refine aK ?_ _));refine bC ?_ NB102_103.out _;(with_reducible repeat (first|refine aM ?_ _|refine aI ?_|refine aK ?_ _));refine bQ (cs:=#[.int .i64 ((aC t108 1).f0),.int .i64 0]) ?_ 1 _ rfl;(with_reducible repeat (first|refine aM ?_ _|refine aI ?_|refine aK ?_ _));refine bQ (cs:=#[.int .i64 0,.int .i64 0]) ?_ 0 _ rfl;(with_reducible repeat (first|refine aM ?_ _|refine aI ?_|refine aK ?_ _));refine bC ?_ NB102_101.out _;(with_reducible repeat (first|refine aM ?_ _|refine aI ?_|refine aK ?_ _));refine bC ?_ NB102_101.out _;(with_reducible repeat (first|refine aM ?_ _|refine aI ?_|refine aK ?_ _));exact BK102.out) Tryz.underlying28 rfl (by kernel_rfl) (.cell gb103 28 #[.int .i64 ((aC t108 0).f0),.int .i64 ((aC t108 0).f1)] (0,0) _ rfl (by (with_reducible repeat (first|refine aM ?_ _|refine aI ?_|refine aK ?_ _));refine bQ (cs:=#[.int .i64 ((aC t108 0).f0),.int .i64 0]) ?_ 1 _ rfl;(with_reducible repeat (first|refine aM ?_ _|refine aI ?_|refine aK ?_ _));refine bQ (cs:=#[.int .i64 0,.int .i64 0]) ?_ 0 _ rfl;(with_reducible repeat (first|refine aM ?_ _|refine aI ?_|refine aK ?_ _));refine bC ?_ NB103_102.out _;(with_reducible repeat (first|refine aM ?_ _|refine aI ?_|refine aK ?_ _));refine bC ?_ NB103_102.out _;(with_reducible repeat (first|refine aM ?_ _|refine aI ?_|refine aK ?_ _));refine bC ?_ NB103_101.out _;(with_reducible repeat (first|refine aM ?_ _|refine aI ?_|refine aK ?_ _));refine bC ?_ NB103_101.out _;(with_reducible repeat (first|refine aM ?_ _|refine aI ?_|refine aK ?_ _));exact BK103.out) Tryz.underlying28 rfl (by kernel_rfl) .nil)))) rfl ?_
   exact ⟨bP,gP HB (bD HI107.out)⟩
  ·have c36b0:(t115==1)=false:=beq_eq_false_iff_ne.mpr c36
   have c36b1:(t115 != 1)=true:=bne_iff_ne.mpr c36
   rcases jE H with ⟨c61,H⟩|⟨c61,H⟩
   ·have c61b0:(t115==2)=true:=beq_iff_eq.mpr c61
    have c61b1:(t115 != 2)=false:=bne_eq_false_iff_eq.mpr c61
    clear c61
    obtain ⟨c62,H⟩:=gQ H
    have c62b0:=decide_eq_true c62
    have c62b1:decide (1<t108.length)=true:=decide_eq_true (by omega)
    clear c62
    obtain ⟨c63,H⟩:=gQ H
    have c63b0:=decide_eq_true c63
    have c63b1:decide (0<t108.length)=true:=decide_eq_true (by omega)
    clear c63
    simp only [Option.some.injEq,Prod.mk.injEq] at H
    obtain ⟨rfl,rfl,rfl,rfl,rfl,rfl⟩:=H
    try go_wp2
    replace HO110:=aE (gU HO110.out)
    replace BK101:=aE (aI BK101.out)
    replace BK102:=aE (aI BK102.out)
    replace BK103:=aE (aI BK103.out)
    replace BK114:=aE (aI BK114.out)
    replace HI107:=aE (dR.drew HI107.out)
    replace HB:=aE (jK HB.out)
    have p129:0≤(1:Int):=(by omega)
    have q129:1<(t108.length:Int):=bI
    obtain ⟨ad129,e129,hx129_0,hx129_1⟩:=bW (Kd.R_reads' HO110.out).2.2 1 p129 q129
    obtain rfl:ad113=ad129:=(by injection e129)
    (try simp only [show (1:Int).toNat=1 from rfl,Nat.reduceMul,Nat.reduceEqDiff,Go.Addr.add,↓reduceIte] at hx129_0)
    (try simp only [show (1:Int).toNat=1 from rfl,Nat.reduceMul,Nat.reduceEqDiff,Go.Addr.add,↓reduceIte] at hx129_1)
    have qi129:(1<t108.length)=True:=eq_true (by omega)
    (try rw [show ((1:Int)).toNat=1 from rfl] at hx129_0)
    (try rw [show 1*2=2 from rfl] at hx129_0)
    (try rw [show ((1:Int)).toNat=1 from rfl] at hx129_1)
    (try rw [show 1*2=2 from rfl] at hx129_1)
    replace p129:=eq_true p129
    replace q129:=eq_true q129
    have p130:0≤(0:Int):=(by omega)
    have q130:0<(t108.length:Int):=bI
    obtain ⟨ad130,e130,hx130_0,hx130_1⟩:=bW (Kd.R_reads' HO110.out).2.2 0 p130 q130
    obtain rfl:ad113=ad130:=(by injection e130)
    have qi130:(0<t108.length)=True:=eq_true (by omega)
    (try rw [show ((0:Int)).toNat=0 from rfl] at hx130_0)
    (try rw [show 0*2=0 from rfl] at hx130_0)
    (try rw [Addr.add_zero'] at hx130_0)
    (try rw [show ((0:Int)).toNat=0 from rfl] at hx130_1)
    (try rw [show 0*2=0 from rfl] at hx130_1)
    (try rw [Addr.add_zero'] at hx130_1)
    replace p130:=eq_true p130
    replace q130:=eq_true q130
    have p131:0≤(1:Int):=(by omega)
    have q131:1<(t108.length:Int):=bI
    obtain ⟨ad131,e131,hx131_0,hx131_1⟩:=bW (Kd.R_reads' HO110.out).2.2 1 p131 q131
    obtain rfl:ad113=ad131:=(by injection e131)
    (try simp only [show (1:Int).toNat=1 from rfl,Nat.reduceMul,Nat.reduceEqDiff,Go.Addr.add,↓reduceIte] at hx131_0)
    (try simp only [show (1:Int).toNat=1 from rfl,Nat.reduceMul,Nat.reduceEqDiff,Go.Addr.add,↓reduceIte] at hx131_1)
    have qi131:(1<t108.length)=True:=eq_true (by omega)
    (try rw [show ((1:Int)).toNat=1 from rfl] at hx131_0)
    (try rw [show 1*2=2 from rfl] at hx131_0)
    (try rw [show ((1:Int)).toNat=1 from rfl] at hx131_1)
    (try rw [show 1*2=2 from rfl] at hx131_1)
    replace p131:=eq_true p131
    replace q131:=eq_true q131
    have p132:0≤(0:Int):=(by omega)
    have q132:0<(t108.length:Int):=bI
    obtain ⟨ad132,e132,hx132_0,hx132_1⟩:=bW (Kd.R_reads' HO110.out).2.2 0 p132 q132
    obtain rfl:ad113=ad132:=(by injection e132)
    have qi132:(0<t108.length)=True:=eq_true (by omega)
    (try rw [show ((0:Int)).toNat=0 from rfl] at hx132_0)
    (try rw [show 0*2=0 from rfl] at hx132_0)
    (try rw [Addr.add_zero'] at hx132_0)
    (try rw [show ((0:Int)).toNat=0 from rfl] at hx132_1)
    (try rw [show 0*2=0 from rfl] at hx132_1)
    (try rw [Addr.add_zero'] at hx132_1)
    replace p132:=eq_true p132
    replace q132:=eq_true q132
    refine dA (n:=22) (S:=fun w'=>w'.cell? ⟨ad113.block,ad113.off+2,none⟩=some (.int .i64 ((aC t108 1).f0))∧w'.cell? ⟨ad113.block,ad113.off+2+1,none⟩=some (.int .i64 ((aC t108 1).f1))∧w'.cell? ad113=some (.int .i64 ((aC t108 0).f0))∧w'.cell? ⟨ad113.block,ad113.off+1,none⟩=some (.int .i64 ((aC t108 0).f1))∧w'.cell? ⟨ad113.block,ad113.off+2,none⟩=some (.int .i64 ((aC t108 1).f0))∧w'.cell? ⟨ad113.block,ad113.off+2+1,none⟩=some (.int .i64 ((aC t108 1).f1))∧w'.cell? ad113=some (.int .i64 ((aC t108 0).f0))∧w'.cell? ⟨ad113.block,ad113.off+1,none⟩=some (.int .i64 ((aC t108 0).f1))) (ds:=[]) (bm 22 0) (by kernel_rfl) rfl rfl ⟨hx129_0,hx129_1,hx130_0,hx130_1,hx131_0,hx131_1,hx132_0,hx132_1⟩ (fun hHeld=>?_);refine bO xX wP (fun HT_ HW_=>?_)
    generalize w22.drew=w77 at HO110 BK101 BK102 BK103 BK114 HI107 HB hx129_0 hx129_1 hx130_0 hx130_1 hx131_0 hx131_1 hx132_0 hx132_1 hHeld ⊢
    refine bU ((0,0,30,1)::(0,1,31,3)::(0,2,32,7)::(0,5,35,39)::(0,6,36,103)::(0,7,37,231)::(0,10,40,1255)::(0,11,41,3303)::(0,12,42,7399)::(0,15,45,40167)::(0,16,46,105703)::(0,17,47,236775)::(2,3,33,236783)::(0,4,34,236799)::(2,8,38,237055)::(0,9,39,237567)::(2,13,43,245759)::(0,14,44,262143)::(2,18,48,524287)::(0,19,49,1048575)::(0,20,50,2097151)::[]) ?_
    iterate 21 (first|refine jT HT_ ?_|refine pZ HT_ HW_ hHeld ?_)
    refine aU ?_
    refine dQ (i:=21) (N:=none) (bm 22 4194303) rfl rfl (bJ HT_.out (by kernel_rfl)) (by decide) (fun K hK=>?_)
    have hs78:w77.cell? ⟨gb114,0,none⟩=some (.int .i64 ((aC t108 2).f0)):=aW BK114 0
    have hfs78:=aA BK114.out 0
    have hns78_0:=NB101_114.out
    have hns78_1:=NB102_114.out
    have hns78_2:=NB103_114.out
    have hms78_0:=NB114_101.out
    have hms78_1:=NB114_102.out
    have hms78_2:=NB114_103.out
    have hs79:w77.cell? ⟨gb114,1,none⟩=some (.int .i64 ((aC t108 2).f1)):=aW BK114 1
    have hfs79:=aA BK114.out 1
    have hns79_0:=NB101_114.out
    have hns79_1:=NB102_114.out
    have hns79_2:=NB103_114.out
    have hms79_0:=NB114_101.out
    have hms79_1:=NB114_102.out
    have hms79_2:=NB114_103.out
    refine kY (w1:=?_) (by rfl) rfl ?_ ?_
    rotate_left
    ·go_simp
     rfl
    refine hK.out _ _ ⟨(jB (Kd.own_blk (Kd.R_away HO110.out (fun _ hk=>hk.2))) ((jB (Kd.own_blk (Kd.R_away HO110.out (fun _ hk=>hk.2))) hHeld.1))),(jB (Kd.own_blk (Kd.R_away HO110.out (fun _ hk=>hk.2))) ((jB (Kd.own_blk (Kd.R_away HO110.out (fun _ hk=>hk.2))) hHeld.2.1))),(jB (Kd.own_blk (Kd.R_away HO110.out (fun _ hk=>hk.2))) ((jB (Kd.own_blk (Kd.R_away HO110.out (fun _ hk=>hk.2))) hHeld.2.2.1))),(jB (Kd.own_blk (Kd.R_away HO110.out (fun _ hk=>hk.2))) ((jB (Kd.own_blk (Kd.R_away HO110.out (fun _ hk=>hk.2))) hHeld.2.2.2.1))),(jB (Kd.own_blk (Kd.R_away HO110.out (fun _ hk=>hk.2))) ((jB (Kd.own_blk (Kd.R_away HO110.out (fun _ hk=>hk.2))) hHeld.2.2.2.2.1))),(jB (Kd.own_blk (Kd.R_away HO110.out (fun _ hk=>hk.2))) ((jB (Kd.own_blk (Kd.R_away HO110.out (fun _ hk=>hk.2))) hHeld.2.2.2.2.2.1))),(jB (Kd.own_blk (Kd.R_away HO110.out (fun _ hk=>hk.2))) ((jB (Kd.own_blk (Kd.R_away HO110.out (fun _ hk=>hk.2))) hHeld.2.2.2.2.2.2.1))),(jB (Kd.own_blk (Kd.R_away HO110.out (fun _ hk=>hk.2))) ((jB (Kd.own_blk (Kd.R_away HO110.out (fun _ hk=>hk.2))) hHeld.2.2.2.2.2.2.2)))⟩ (fun hHeld=>?_)
    clear hK K
    refine eN (cK HT_.out (by kernel_rfl)) ?_
    try go_wp2
    replace HO110:Aside0 (Kd.R jW 28 ((w77.setCell ⟨gb114,0,none⟩ (.int .i64 (wrap64 ((wrap64 (2*((aC t108 1).f0)))-((aC t108 0).f0))))).setCell ⟨gb114,1,none⟩ (.int .i64 (wrap64 ((wrap64 (2*((aC t108 1).f1)))-((aC t108 0).f1))))) w.heap.size (fun k_=>k_≠gb101∧k_≠gb102∧k_≠gb103∧k_≠gb114) (.slice (some ad113) t108.length co15) t108):=⟨by (with_reducible repeat (first|apply kD|apply kE|apply gU));exact Kd.R_mono (Kd.R_far (p:=⟨gb114,1,none⟩) (Kd.R_far (p:=⟨gb114,0,none⟩) (Kd.R_mono HO110.out (fun k_ hk=>(⟨hk,hk.2⟩:_∧k_≠gb114))) (fun _ hk=>hk.2) (.int .i64 (wrap64 ((wrap64 (2*((aC t108 1).f0)))-((aC t108 0).f0))))) (fun _ hk=>hk.2) (.int .i64 (wrap64 ((wrap64 (2*((aC t108 1).f1)))-((aC t108 0).f1))))) (fun _ hk=>⟨hk.1.1.1.1.2,⟨hk.1.1.1.2,⟨hk.1.1.2,hk.1.2⟩⟩⟩)⟩
    replace BK101:Aside0 (((w77.setCell ⟨gb114,0,none⟩ (.int .i64 (wrap64 ((wrap64 (2*((aC t108 1).f0)))-((aC t108 0).f0))))).setCell ⟨gb114,1,none⟩ (.int .i64 (wrap64 ((wrap64 (2*((aC t108 1).f1)))-((aC t108 0).f1))))).heap[gb101]? = some (.cells #[.int .i64 0,.int .i64 0] 28 (0,0))):=⟨jR BK101⟩
    replace BK102:Aside0 (((w77.setCell ⟨gb114,0,none⟩ (.int .i64 (wrap64 ((wrap64 (2*((aC t108 1).f0)))-((aC t108 0).f0))))).setCell ⟨gb114,1,none⟩ (.int .i64 (wrap64 ((wrap64 (2*((aC t108 1).f1)))-((aC t108 0).f1))))).heap[gb102]? = some (.cells #[.int .i64 0,.int .i64 0] 28 (0,0))):=⟨jR BK102⟩
    replace BK103:Aside0 (((w77.setCell ⟨gb114,0,none⟩ (.int .i64 (wrap64 ((wrap64 (2*((aC t108 1).f0)))-((aC t108 0).f0))))).setCell ⟨gb114,1,none⟩ (.int .i64 (wrap64 ((wrap64 (2*((aC t108 1).f1)))-((aC t108 0).f1))))).heap[gb103]? = some (.cells #[.int .i64 0,.int .i64 0] 28 (0,0))):=⟨jR BK103⟩
    replace BK114:Aside0 (((w77.setCell ⟨gb114,0,none⟩ (.int .i64 (wrap64 ((wrap64 (2*((aC t108 1).f0)))-((aC t108 0).f0))))).setCell ⟨gb114,1,none⟩ (.int .i64 (wrap64 ((wrap64 (2*((aC t108 1).f1)))-((aC t108 0).f1))))).heap[gb114]? = some (.cells #[.int .i64 (wrap64 ((wrap64 (2*((aC t108 1).f0)))-((aC t108 0).f0))),.int .i64 (wrap64 ((wrap64 (2*((aC t108 1).f1)))-((aC t108 0).f1)))] 28 (0,0))):=⟨jR BK114⟩
    replace HB:Aside0 (Below w.heap.size w ((w77.setCell ⟨gb114,0,none⟩ (.int .i64 (wrap64 ((wrap64 (2*((aC t108 1).f0)))-((aC t108 0).f0))))).setCell ⟨gb114,1,none⟩ (.int .i64 (wrap64 ((wrap64 (2*((aC t108 1).f1)))-((aC t108 0).f1)))))):=⟨gP HB (bD HI107.out)⟩
    replace HI107:Aside0 (dR w ((w77.setCell ⟨gb114,0,none⟩ (.int .i64 (wrap64 ((wrap64 (2*((aC t108 1).f0)))-((aC t108 0).f0))))).setCell ⟨gb114,1,none⟩ (.int .i64 (wrap64 ((wrap64 (2*((aC t108 1).f1)))-((aC t108 0).f1))))) g107 t104 t116 t117):=⟨cQ HI107⟩
    generalize ((w77.setCell ⟨gb114,0,none⟩ (.int .i64 (wrap64 ((wrap64 (2*((aC t108 1).f0)))-((aC t108 0).f0))))).setCell ⟨gb114,1,none⟩ (.int .i64 (wrap64 ((wrap64 (2*((aC t108 1).f1)))-((aC t108 0).f1)))))=w80 at HO110 BK101 BK102 BK103 BK114 HI107 HB ⊢
    replace HO110:=aE (gU HO110.out)
    replace BK101:=aE (aI BK101.out)
    replace BK102:=aE (aI BK102.out)
    replace BK103:=aE (aI BK103.out)
    replace BK114:=aE (aI BK114.out)
    replace HI107:=aE (dR.drew HI107.out)
    replace HB:=aE (jK HB.out)
    have p133:0≤(0:Int):=(by omega)
    have q133:0<(t108.length:Int):=bI
    obtain ⟨ad133,e133,hx133_0,hx133_1⟩:=bW (Kd.R_reads' HO110.out).2.2 0 p133 q133
    obtain rfl:ad113=ad133:=(by injection e133)
    have qi133:(0<t108.length)=True:=eq_true (by omega)
    (try rw [show ((0:Int)).toNat=0 from rfl] at hx133_0)
    (try rw [show 0*2=0 from rfl] at hx133_0)
    (try rw [Addr.add_zero'] at hx133_0)
    (try rw [show ((0:Int)).toNat=0 from rfl] at hx133_1)
    (try rw [show 0*2=0 from rfl] at hx133_1)
    (try rw [Addr.add_zero'] at hx133_1)
    replace p133:=eq_true p133
    replace q133:=eq_true q133
    have p134:0≤(1:Int):=(by omega)
    have q134:1<(t108.length:Int):=bI
    obtain ⟨ad134,e134,hx134_0,hx134_1⟩:=bW (Kd.R_reads' HO110.out).2.2 1 p134 q134
    obtain rfl:ad113=ad134:=(by injection e134)
    (try simp only [show (1:Int).toNat=1 from rfl,Nat.reduceMul,Nat.reduceEqDiff,Go.Addr.add,↓reduceIte] at hx134_0)
    (try simp only [show (1:Int).toNat=1 from rfl,Nat.reduceMul,Nat.reduceEqDiff,Go.Addr.add,↓reduceIte] at hx134_1)
    have qi134:(1<t108.length)=True:=eq_true (by omega)
    (try rw [show ((1:Int)).toNat=1 from rfl] at hx134_0)
    (try rw [show 1*2=2 from rfl] at hx134_0)
    (try rw [show ((1:Int)).toNat=1 from rfl] at hx134_1)
    (try rw [show 1*2=2 from rfl] at hx134_1)
    replace p134:=eq_true p134
    replace q134:=eq_true q134
    refine dA (n:=10) (S:=fun w'=>w'.cell? ⟨gb114,0,none⟩=some (.int .i64 (wrap64 ((wrap64 (2*((aC t108 1).f0)))-((aC t108 0).f0))))∧w'.cell? ⟨gb114,1,none⟩=some (.int .i64 (wrap64 ((wrap64 (2*((aC t108 1).f1)))-((aC t108 0).f1))))∧w'.cell? ad113=some (.int .i64 ((aC t108 0).f0))∧w'.cell? ⟨ad113.block,ad113.off+1,none⟩=some (.int .i64 ((aC t108 0).f1))∧w'.cell? ⟨ad113.block,ad113.off+2,none⟩=some (.int .i64 ((aC t108 1).f0))∧w'.cell? ⟨ad113.block,ad113.off+2+1,none⟩=some (.int .i64 ((aC t108 1).f1))) (ds:=[]) (bm 10 0) (by kernel_rfl) rfl rfl ⟨aW BK114 0,aW BK114 1,hx133_0,hx133_1,hx134_0,hx134_1⟩ (fun hHeld=>?_);refine bO kU kK (fun HT_ HW_=>?_)
    generalize w80.drew=w81 at HO110 BK101 BK102 BK103 BK114 HI107 HB hx133_0 hx133_1 hx134_0 hx134_1 hHeld ⊢
    refine bU ((0,0,51,1)::(0,1,52,3)::(0,3,54,11)::(0,4,55,27)::(2,2,53,31)::(2,5,56,63)::(2,6,57,127)::[]) ?_
    iterate 7 (first|refine jT HT_ ?_|refine pZ HT_ HW_ hHeld ?_)
    refine aU ?_
    refine dQ (i:=7) (N:=none) (bm 10 255) rfl rfl (bJ HT_.out (by kernel_rfl)) (by decide) (fun K hK=>?_)
    have hs82:w81.cell? ⟨gb101,0,none⟩=some (.int .i64 0):=aW BK101 0
    have hfs82:=aA BK101.out 0
    have hns82_1:=NB102_101.out
    have hns82_2:=NB103_101.out
    have hns82_3:=NB114_101.out
    have hms82_1:=NB101_102.out
    have hms82_2:=NB101_103.out
    have hms82_3:=NB101_114.out
    have hs83:w81.cell? ⟨gb101,1,none⟩=some (.int .i64 0):=aW BK101 1
    have hfs83:=aA BK101.out 1
    have hns83_1:=NB102_101.out
    have hns83_2:=NB103_101.out
    have hns83_3:=NB114_101.out
    have hms83_1:=NB101_102.out
    have hms83_2:=NB101_103.out
    have hms83_3:=NB101_114.out
    refine kY (w1:=?_) (by rfl) rfl ?_ ?_
    rotate_left
    ·go_simp
     rfl
    refine hK.out _ _ ⟨(lT NB114_101 ((lT NB114_101 hHeld.1))),(lT NB114_101 ((lT NB114_101 hHeld.2.1))),(jB (Kd.own_blk (Kd.R_away HO110.out (fun _ hk=>hk.1))) ((jB (Kd.own_blk (Kd.R_away HO110.out (fun _ hk=>hk.1))) hHeld.2.2.1))),(jB (Kd.own_blk (Kd.R_away HO110.out (fun _ hk=>hk.1))) ((jB (Kd.own_blk (Kd.R_away HO110.out (fun _ hk=>hk.1))) hHeld.2.2.2.1))),(jB (Kd.own_blk (Kd.R_away HO110.out (fun _ hk=>hk.1))) ((jB (Kd.own_blk (Kd.R_away HO110.out (fun _ hk=>hk.1))) hHeld.2.2.2.2.1))),(jB (Kd.own_blk (Kd.R_away HO110.out (fun _ hk=>hk.1))) ((jB (Kd.own_blk (Kd.R_away HO110.out (fun _ hk=>hk.1))) hHeld.2.2.2.2.2)))⟩ (fun hHeld=>?_)
    clear hK K
    refine dQ (i:=8) (N:=none) (bm 10 511) rfl rfl (bJ HT_.out (by kernel_rfl)) (by decide) (fun K hK=>?_)
    have hs84:w81.cell? ⟨gb102,0,none⟩=some (.int .i64 0):=aW BK102 0
    have hfs84:=aA BK102.out 0
    have hns84_0:=NB101_102.out
    have hns84_2:=NB103_102.out
    have hns84_3:=NB114_102.out
    have hms84_0:=NB102_101.out
    have hms84_2:=NB102_103.out
    have hms84_3:=NB102_114.out
    have hs85:w81.cell? ⟨gb102,1,none⟩=some (.int .i64 0):=aW BK102 1
    have hfs85:=aA BK102.out 1
    have hns85_0:=NB101_102.out
    have hns85_2:=NB103_102.out
    have hns85_3:=NB114_102.out
    have hms85_0:=NB102_101.out
    have hms85_2:=NB102_103.out
    have hms85_3:=NB102_114.out
    refine kY (w1:=?_) (by rfl) rfl ?_ ?_
    rotate_left
    ·go_simp
     rfl
    refine hK.out _ _ ⟨(lT NB114_102 ((lT NB114_102 hHeld.1))),(lT NB114_102 ((lT NB114_102 hHeld.2.1))),(jB (Kd.own_blk (Kd.R_away HO110.out (fun _ hk=>hk.2.1))) ((jB (Kd.own_blk (Kd.R_away HO110.out (fun _ hk=>hk.2.1))) hHeld.2.2.1))),(jB (Kd.own_blk (Kd.R_away HO110.out (fun _ hk=>hk.2.1))) ((jB (Kd.own_blk (Kd.R_away HO110.out (fun _ hk=>hk.2.1))) hHeld.2.2.2.1))),(jB (Kd.own_blk (Kd.R_away HO110.out (fun _ hk=>hk.2.1))) ((jB (Kd.own_blk (Kd.R_away HO110.out (fun _ hk=>hk.2.1))) hHeld.2.2.2.2.1))),(jB (Kd.own_blk (Kd.R_away HO110.out (fun _ hk=>hk.2.1))) ((jB (Kd.own_blk (Kd.R_away HO110.out (fun _ hk=>hk.2.1))) hHeld.2.2.2.2.2)))⟩ (fun hHeld=>?_)
    clear hK K
    refine dQ (i:=9) (N:=none) (bm 10 1023) rfl rfl (bJ HT_.out (by kernel_rfl)) (by decide) (fun K hK=>?_)
    have hs86:w81.cell? ⟨gb103,0,none⟩=some (.int .i64 0):=aW BK103 0
    have hfs86:=aA BK103.out 0
    have hns86_0:=NB101_103.out
    have hns86_1:=NB102_103.out
    have hns86_3:=NB114_103.out
    have hms86_0:=NB103_101.out
    have hms86_1:=NB103_102.out
    have hms86_3:=NB103_114.out
    have hs87:w81.cell? ⟨gb103,1,none⟩=some (.int .i64 0):=aW BK103 1
    have hfs87:=aA BK103.out 1
    have hns87_0:=NB101_103.out
    have hns87_1:=NB102_103.out
    have hns87_3:=NB114_103.out
    have hms87_0:=NB103_101.out
    have hms87_1:=NB103_102.out
    have hms87_3:=NB103_114.out
    refine kY (w1:=?_) (by rfl) rfl ?_ ?_
    rotate_left
    ·go_simp
     rfl
    refine hK.out _ _ ⟨(lT NB114_103 ((lT NB114_103 hHeld.1))),(lT NB114_103 ((lT NB114_103 hHeld.2.1))),(jB (Kd.own_blk (Kd.R_away HO110.out (fun _ hk=>hk.2.2.1))) ((jB (Kd.own_blk (Kd.R_away HO110.out (fun _ hk=>hk.2.2.1))) hHeld.2.2.1))),(jB (Kd.own_blk (Kd.R_away HO110.out (fun _ hk=>hk.2.2.1))) ((jB (Kd.own_blk (Kd.R_away HO110.out (fun _ hk=>hk.2.2.1))) hHeld.2.2.2.1))),(jB (Kd.own_blk (Kd.R_away HO110.out (fun _ hk=>hk.2.2.1))) ((jB (Kd.own_blk (Kd.R_away HO110.out (fun _ hk=>hk.2.2.1))) hHeld.2.2.2.2.1))),(jB (Kd.own_blk (Kd.R_away HO110.out (fun _ hk=>hk.2.2.1))) ((jB (Kd.own_blk (Kd.R_away HO110.out (fun _ hk=>hk.2.2.1))) hHeld.2.2.2.2.2)))⟩ (fun hHeld=>?_)
    clear hK K
    refine eN (cK HT_.out (by kernel_rfl)) ?_
    try go_wp2
    refine bodyPost_ret (mN (rs:=[.cell 2 28,.cell 3 28,.cell 4 28]) rfl (by simp) (.cell gb101 28 #[.int .i64 ((aC t108 0).f0),.int .i64 ((aC t108 0).f1)] (0,0) _ rfl (jR BK101) Tryz.underlying28 rfl (by kernel_rfl) (.cell gb102 28 #[.int .i64 ((aC t108 1).f0),.int .i64 ((aC t108 1).f1)] (0,0) _ rfl (by (with_reducible repeat (first|refine aM ?_ _|refine aI ?_|refine aK ?_ _));refine bC ?_ NB102_103.out _;(with_reducible repeat (first|refine aM ?_ _|refine aI ?_|refine aK ?_ _));refine bC ?_ NB102_103.out _;(with_reducible repeat (first|refine aM ?_ _|refine aI ?_|refine aK ?_ _));refine bQ (cs:=#[.int .i64 ((aC t108 1).f0),.int .i64 0]) ?_ 1 _ rfl;(with_reducible repeat (first|refine aM ?_ _|refine aI ?_|refine aK ?_ _));refine bQ (cs:=#[.int .i64 0,.int .i64 0]) ?_ 0 _ rfl;(with_reducible repeat (first|refine aM ?_ _|refine aI ?_|refine aK ?_ _));refine bC ?_ NB102_101.out _;(with_reducible repeat (first|refine aM ?_ _|refine aI ?_|refine aK ?_ _));refine bC ?_ NB102_101.out _;(with_reducible repeat (first|refine aM ?_ _|refine aI ?_|refine aK ?_ _));exact BK102.out) Tryz.underlying28 rfl (by kernel_rfl) (.cell gb103 28 #[.int .i64 (wrap64 ((wrap64 (2*((aC t108 1).f0)))-((aC t108 0).f0))),.int .i64 (wrap64 ((wrap64 (2*((aC t108 1).f1)))-((aC t108 0).f1)))] (0,0) _ rfl (by (with_reducible repeat (first|refine aM ?_ _|refine aI ?_|refine aK ?_ _));refine bQ (cs:=#[.int .i64 (wrap64 ((wrap64 (2*((aC t108 1).f0)))-((aC t108 0).f0))),.int .i64 0]) ?_ 1 _ rfl;(with_reducible repeat (first|refine aM ?_ _|refine aI ?_|refine aK ?_ _));refine bQ (cs:=#[.int .i64 0,.int .i64 0]) ?_ 0 _ rfl;(with_reducible repeat (first|refine aM ?_ _|refine aI ?_|refine aK ?_ _));refine bC ?_ NB103_102.out _;(with_reducible repeat (first|refine aM ?_ _|refine aI ?_|refine aK ?_ _));refine bC ?_ NB103_102.out _;(with_reducible repeat (first|refine aM ?_ _|refine aI ?_|refine aK ?_ _));refine bC ?_ NB103_101.out _;(with_reducible repeat (first|refine aM ?_ _|refine aI ?_|refine aK ?_ _));refine bC ?_ NB103_101.out _;(with_reducible repeat (first|refine aM ?_ _|refine aI ?_|refine aK ?_ _));exact BK103.out) Tryz.underlying28 rfl (by kernel_rfl) .nil)))) rfl ?_
    exact ⟨bP,gP HB (bD HI107.out)⟩
   ·have c61b0:(t115==2)=false:=beq_eq_false_iff_ne.mpr c61
    have c61b1:(t115 != 2)=true:=bne_iff_ne.mpr c61
    obtain ⟨c88,H⟩:=gQ H
    have c88b0:=decide_eq_true c88
    have c88b1:decide (0<t108.length)=true:=decide_eq_true (by omega)
    clear c88
    obtain ⟨c89,H⟩:=gQ H
    have c89b0:=decide_eq_true c89
    have c89b1:decide (1<t108.length)=true:=decide_eq_true (by omega)
    clear c89
    simp only [Option.some.injEq,Prod.mk.injEq] at H
    obtain ⟨rfl,rfl,rfl,rfl,rfl,rfl⟩:=H
    try go_wp2
    replace HO110:=aE (gU HO110.out)
    replace BK101:=aE (aI BK101.out)
    replace BK102:=aE (aI BK102.out)
    replace BK103:=aE (aI BK103.out)
    replace BK114:=aE (aI BK114.out)
    replace HI107:=aE (dR.drew HI107.out)
    replace HB:=aE (jK HB.out)
    have p135:0≤(0:Int):=(by omega)
    have q135:0<(t108.length:Int):=bI
    obtain ⟨ad135,e135,hx135_0,hx135_1⟩:=bW (Kd.R_reads' HO110.out).2.2 0 p135 q135
    obtain rfl:ad113=ad135:=(by injection e135)
    have qi135:(0<t108.length)=True:=eq_true (by omega)
    (try rw [show ((0:Int)).toNat=0 from rfl] at hx135_0)
    (try rw [show 0*2=0 from rfl] at hx135_0)
    (try rw [Addr.add_zero'] at hx135_0)
    (try rw [show ((0:Int)).toNat=0 from rfl] at hx135_1)
    (try rw [show 0*2=0 from rfl] at hx135_1)
    (try rw [Addr.add_zero'] at hx135_1)
    replace p135:=eq_true p135
    replace q135:=eq_true q135
    have p136:0≤(1:Int):=(by omega)
    have q136:1<(t108.length:Int):=bI
    obtain ⟨ad136,e136,hx136_0,hx136_1⟩:=bW (Kd.R_reads' HO110.out).2.2 1 p136 q136
    obtain rfl:ad113=ad136:=(by injection e136)
    (try simp only [show (1:Int).toNat=1 from rfl,Nat.reduceMul,Nat.reduceEqDiff,Go.Addr.add,↓reduceIte] at hx136_0)
    (try simp only [show (1:Int).toNat=1 from rfl,Nat.reduceMul,Nat.reduceEqDiff,Go.Addr.add,↓reduceIte] at hx136_1)
    have qi136:(1<t108.length)=True:=eq_true (by omega)
    (try rw [show ((1:Int)).toNat=1 from rfl] at hx136_0)
    (try rw [show 1*2=2 from rfl] at hx136_0)
    (try rw [show ((1:Int)).toNat=1 from rfl] at hx136_1)
    (try rw [show 1*2=2 from rfl] at hx136_1)
    replace p136:=eq_true p136
    replace q136:=eq_true q136
    refine dA (n:=10) (S:=fun w'=>w'.cell? ⟨gb114,0,none⟩=some (.int .i64 ((aC t108 2).f0))∧w'.cell? ⟨gb114,1,none⟩=some (.int .i64 ((aC t108 2).f1))∧w'.cell? ad113=some (.int .i64 ((aC t108 0).f0))∧w'.cell? ⟨ad113.block,ad113.off+1,none⟩=some (.int .i64 ((aC t108 0).f1))∧w'.cell? ⟨ad113.block,ad113.off+2,none⟩=some (.int .i64 ((aC t108 1).f0))∧w'.cell? ⟨ad113.block,ad113.off+2+1,none⟩=some (.int .i64 ((aC t108 1).f1))) (ds:=[]) (bm 10 0) (by kernel_rfl) rfl rfl ⟨aW BK114 0,aW BK114 1,hx135_0,hx135_1,hx136_0,hx136_1⟩ (fun hHeld=>?_);refine bO kU kK (fun HT_ HW_=>?_)
    generalize w22.drew=w103 at HO110 BK101 BK102 BK103 BK114 HI107 HB hx135_0 hx135_1 hx136_0 hx136_1 hHeld ⊢
    refine bU ((0,0,51,1)::(0,1,52,3)::(0,3,54,11)::(0,4,55,27)::(2,2,53,31)::(2,5,56,63)::(2,6,57,127)::[]) ?_
    iterate 7 (first|refine jT HT_ ?_|refine pZ HT_ HW_ hHeld ?_)
    refine aU ?_
    refine dQ (i:=7) (N:=none) (bm 10 255) rfl rfl (bJ HT_.out (by kernel_rfl)) (by decide) (fun K hK=>?_)
    have hs104:w103.cell? ⟨gb101,0,none⟩=some (.int .i64 0):=aW BK101 0
    have hfs104:=aA BK101.out 0
    have hns104_1:=NB102_101.out
    have hns104_2:=NB103_101.out
    have hns104_3:=NB114_101.out
    have hms104_1:=NB101_102.out
    have hms104_2:=NB101_103.out
    have hms104_3:=NB101_114.out
    have hs105:w103.cell? ⟨gb101,1,none⟩=some (.int .i64 0):=aW BK101 1
    have hfs105:=aA BK101.out 1
    have hns105_1:=NB102_101.out
    have hns105_2:=NB103_101.out
    have hns105_3:=NB114_101.out
    have hms105_1:=NB101_102.out
    have hms105_2:=NB101_103.out
    have hms105_3:=NB101_114.out
    refine kY (w1:=?_) (by rfl) rfl ?_ ?_
    rotate_left
    ·go_simp
     rfl
    refine hK.out _ _ ⟨(lT NB114_101 ((lT NB114_101 hHeld.1))),(lT NB114_101 ((lT NB114_101 hHeld.2.1))),(jB (Kd.own_blk (Kd.R_away HO110.out (fun _ hk=>hk.1.1.1.2))) ((jB (Kd.own_blk (Kd.R_away HO110.out (fun _ hk=>hk.1.1.1.2))) hHeld.2.2.1))),(jB (Kd.own_blk (Kd.R_away HO110.out (fun _ hk=>hk.1.1.1.2))) ((jB (Kd.own_blk (Kd.R_away HO110.out (fun _ hk=>hk.1.1.1.2))) hHeld.2.2.2.1))),(jB (Kd.own_blk (Kd.R_away HO110.out (fun _ hk=>hk.1.1.1.2))) ((jB (Kd.own_blk (Kd.R_away HO110.out (fun _ hk=>hk.1.1.1.2))) hHeld.2.2.2.2.1))),(jB (Kd.own_blk (Kd.R_away HO110.out (fun _ hk=>hk.1.1.1.2))) ((jB (Kd.own_blk (Kd.R_away HO110.out (fun _ hk=>hk.1.1.1.2))) hHeld.2.2.2.2.2)))⟩ (fun hHeld=>?_)
    clear hK K
    refine dQ (i:=8) (N:=none) (bm 10 511) rfl rfl (bJ HT_.out (by kernel_rfl)) (by decide) (fun K hK=>?_)
    have hs106:w103.cell? ⟨gb102,0,none⟩=some (.int .i64 0):=aW BK102 0
    have hfs106:=aA BK102.out 0
    have hns106_0:=NB101_102.out
    have hns106_2:=NB103_102.out
    have hns106_3:=NB114_102.out
    have hms106_0:=NB102_101.out
    have hms106_2:=NB102_103.out
    have hms106_3:=NB102_114.out
    have hs107:w103.cell? ⟨gb102,1,none⟩=some (.int .i64 0):=aW BK102 1
    have hfs107:=aA BK102.out 1
    have hns107_0:=NB101_102.out
    have hns107_2:=NB103_102.out
    have hns107_3:=NB114_102.out
    have hms107_0:=NB102_101.out
    have hms107_2:=NB102_103.out
    have hms107_3:=NB102_114.out
    refine kY (w1:=?_) (by rfl) rfl ?_ ?_
    rotate_left
    ·go_simp
     rfl
    refine hK.out _ _ ⟨(lT NB114_102 ((lT NB114_102 hHeld.1))),(lT NB114_102 ((lT NB114_102 hHeld.2.1))),(jB (Kd.own_blk (Kd.R_away HO110.out (fun _ hk=>hk.1.1.2))) ((jB (Kd.own_blk (Kd.R_away HO110.out (fun _ hk=>hk.1.1.2))) hHeld.2.2.1))),(jB (Kd.own_blk (Kd.R_away HO110.out (fun _ hk=>hk.1.1.2))) ((jB (Kd.own_blk (Kd.R_away HO110.out (fun _ hk=>hk.1.1.2))) hHeld.2.2.2.1))),(jB (Kd.own_blk (Kd.R_away HO110.out (fun _ hk=>hk.1.1.2))) ((jB (Kd.own_blk (Kd.R_away HO110.out (fun _ hk=>hk.1.1.2))) hHeld.2.2.2.2.1))),(jB (Kd.own_blk (Kd.R_away HO110.out (fun _ hk=>hk.1.1.2))) ((jB (Kd.own_blk (Kd.R_away HO110.out (fun _ hk=>hk.1.1.2))) hHeld.2.2.2.2.2)))⟩ (fun hHeld=>?_)
    clear hK K
    refine dQ (i:=9) (N:=none) (bm 10 1023) rfl rfl (bJ HT_.out (by kernel_rfl)) (by decide) (fun K hK=>?_)
    have hs108:w103.cell? ⟨gb103,0,none⟩=some (.int .i64 0):=aW BK103 0
    have hfs108:=aA BK103.out 0
    have hns108_0:=NB101_103.out
    have hns108_1:=NB102_103.out
    have hns108_3:=NB114_103.out
    have hms108_0:=NB103_101.out
    have hms108_1:=NB103_102.out
    have hms108_3:=NB103_114.out
    have hs109:w103.cell? ⟨gb103,1,none⟩=some (.int .i64 0):=aW BK103 1
    have hfs109:=aA BK103.out 1
    have hns109_0:=NB101_103.out
    have hns109_1:=NB102_103.out
    have hns109_3:=NB114_103.out
    have hms109_0:=NB103_101.out
    have hms109_1:=NB103_102.out
    have hms109_3:=NB103_114.out
    refine kY (w1:=?_) (by rfl) rfl ?_ ?_
    rotate_left
    ·go_simp
     rfl
    refine hK.out _ _ ⟨(lT NB114_103 ((lT NB114_103 hHeld.1))),(lT NB114_103 ((lT NB114_103 hHeld.2.1))),(jB (Kd.own_blk (Kd.R_away HO110.out (fun _ hk=>hk.1.2))) ((jB (Kd.own_blk (Kd.R_away HO110.out (fun _ hk=>hk.1.2))) hHeld.2.2.1))),(jB (Kd.own_blk (Kd.R_away HO110.out (fun _ hk=>hk.1.2))) ((jB (Kd.own_blk (Kd.R_away HO110.out (fun _ hk=>hk.1.2))) hHeld.2.2.2.1))),(jB (Kd.own_blk (Kd.R_away HO110.out (fun _ hk=>hk.1.2))) ((jB (Kd.own_blk (Kd.R_away HO110.out (fun _ hk=>hk.1.2))) hHeld.2.2.2.2.1))),(jB (Kd.own_blk (Kd.R_away HO110.out (fun _ hk=>hk.1.2))) ((jB (Kd.own_blk (Kd.R_away HO110.out (fun _ hk=>hk.1.2))) hHeld.2.2.2.2.2)))⟩ (fun hHeld=>?_)
    clear hK K
    refine eN (cK HT_.out (by kernel_rfl)) ?_
    try go_wp2
    refine bodyPost_ret (mN (rs:=[.cell 2 28,.cell 3 28,.cell 4 28]) rfl (by simp) (.cell gb101 28 #[.int .i64 ((aC t108 0).f0),.int .i64 ((aC t108 0).f1)] (0,0) _ rfl (jR BK101) Tryz.underlying28 rfl (by kernel_rfl) (.cell gb102 28 #[.int .i64 ((aC t108 1).f0),.int .i64 ((aC t108 1).f1)] (0,0) _ rfl (by (with_reducible repeat (first|refine aM ?_ _|refine aI ?_|refine aK ?_ _));refine bC ?_ NB102_103.out _;(with_reducible repeat (first|refine aM ?_ _|refine aI ?_|refine aK ?_ _));refine bC ?_ NB102_103.out _;(with_reducible repeat (first|refine aM ?_ _|refine aI ?_|refine aK ?_ _));refine bQ (cs:=#[.int .i64 ((aC t108 1).f0),.int .i64 0]) ?_ 1 _ rfl;(with_reducible repeat (first|refine aM ?_ _|refine aI ?_|refine aK ?_ _));refine bQ (cs:=#[.int .i64 0,.int .i64 0]) ?_ 0 _ rfl;(with_reducible repeat (first|refine aM ?_ _|refine aI ?_|refine aK ?_ _));refine bC ?_ NB102_101.out _;(with_reducible repeat (first|refine aM ?_ _|refine aI ?_|refine aK ?_ _));refine bC ?_ NB102_101.out _;(with_reducible repeat (first|refine aM ?_ _|refine aI ?_|refine aK ?_ _));exact BK102.out) Tryz.underlying28 rfl (by kernel_rfl) (.cell gb103 28 #[.int .i64 ((aC t108 2).f0),.int .i64 ((aC t108 2).f1)] (0,0) _ rfl (by (with_reducible repeat (first|refine aM ?_ _|refine aI ?_|refine aK ?_ _));refine bQ (cs:=#[.int .i64 ((aC t108 2).f0),.int .i64 0]) ?_ 1 _ rfl;(with_reducible repeat (first|refine aM ?_ _|refine aI ?_|refine aK ?_ _));refine bQ (cs:=#[.int .i64 0,.int .i64 0]) ?_ 0 _ rfl;(with_reducible repeat (first|refine aM ?_ _|refine aI ?_|refine aK ?_ _));refine bC ?_ NB103_102.out _;(with_reducible repeat (first|refine aM ?_ _|refine aI ?_|refine aK ?_ _));refine bC ?_ NB103_102.out _;(with_reducible repeat (first|refine aM ?_ _|refine aI ?_|refine aK ?_ _));refine bC ?_ NB103_101.out _;(with_reducible repeat (first|refine aM ?_ _|refine aI ?_|refine aK ?_ _));refine bC ?_ NB103_101.out _;(with_reducible repeat (first|refine aM ?_ _|refine aI ?_|refine aK ?_ _));exact BK103.out) Tryz.underlying28 rfl (by kernel_rfl) .nil)))) rfl ?_
    exact ⟨bP,gP HB (bD HI107.out)⟩
/-! ### spec_l1Once: function 34 -/
def spec_l1Once.f (s0_0:List Int) (s0_1:Int) (s0_2:Int) (a1:Int):Option (Bool×Int×Int):=(spec_l1Below.f s0_0 s0_1 s0_2 a1).bind fun bt101=>(some ((bt101.1==0),bt101.2.1,bt101.2.2))
set_option maxHeartbeats 8000000 in
set_option maxRecDepth 100000 in
theorem mR (g:Nat) (s0_0:List Int) (s0_1:Int) (s0_2:Int) (a1:Int) (r1:Bool) (r2:Int) (r3:Int) (w0 w:World) (hI:dR w0 w g s0_0 s0_1 s0_2) (hB:Below w0.heap.size w0 w) (h:spec_l1Once.f s0_0 s0_1 s0_2 a1=some (r1,r2,r3)) :
  Calls Tryz.prog 34 #[.pointer (some ⟨g,0,none⟩),.int .i64 a1] w fun e w'=>e=.returned (.bool r1)∧dR w0 w' g s0_0 r2 r3∧Below w0.heap.size w0 w'∧cM w w' g none:=by
 have HI0:=aE hI
 have HK:=aE (cM.refl w g none)
 have HL:=aE hB.size
 clear hI
 have HW0:=aE hB.size
 have HB:=aE hB
 clear hB
 unfold spec_l1Once.f at h
 have H:=h
 clear h
 replace H:=eM H
 obtain ⟨⟨t101,t102,t103⟩,A3,H⟩:=H
 try dsimp only at H
 simp only [Option.some.injEq,Prod.mk.injEq] at H
 obtain ⟨rfl,rfl,rfl⟩:=H
 go_enter Tryz.func34,Tryz.ntmps34
 go_wp2_with (first|((with_reducible refine aJ (f:=61) rfl ?_);refine aV (some 7) Tryz.func61 #[.pointer (some ⟨g,0,none⟩),.int .i64 a1] ?_;(with_reducible refine (dN g s0_0 s0_1 s0_2 a1 t101 t102 t103 w0 _ ?side1 ?side2 A3.out).mono ?_);(case side1=>exact cQ HI0);(case side2=>exact gP HB (bD HI0.out));rintro e w4 ⟨rfl,hi,hb,hk⟩;refine ⟨_,rfl,?_⟩;replace HK:=aE (cM.trans (iZ HK) hk (.inl rfl));replace HB:=aE (hb);replace HI0:=aE (hi);(try clear hb);(try clear hk);(try clear hi)))
 go_ret
 exact ⟨bP,cQ HI0,gP HB (bD HI0.out),iZ HK⟩
/-! ### spec_DrawOnEdge: function 8 -/
def spec_DrawOnEdge.f (k:Nat) (l0:List Int):Option (Int×Int×Int×Int):=(spec_l2Three.f k l0).bind fun bt103=>((spec_l1New.f k l0).bind fun bt112=>((spec_l1Once.f bt112.1 bt112.2.1 bt112.2.2 8).bind fun bt116=>(if bt116.1=true then (some (bt103.1,bt103.2.1,1001,0)) else (some (bt103.1,bt103.2.1,bt103.2.2.1,bt103.2.2.2.1)))))
set_option maxHeartbeats 8000000 in
set_option maxRecDepth 100000 in
theorem uM (k:Nat) (A0:Option Addr) (c0:Nat) (l0:List Int) (r1:Int) (r2:Int) (r3:Int) (r4:Int) (w:World) (hr0:Kd.C (Kd.int .u8) w A0 l0.length l0) (hc0:l0.length≤c0) (h:spec_DrawOnEdge.f k l0=some (r1,r2,r3,r4)) :
  Calls Tryz.prog 8 #[.slice A0 l0.length c0] w fun e w'=>e=.returned (.tuple #[.agg #[.int .i64 r1,.int .i64 r2],.agg #[.int .i64 r3,.int .i64 r4]])∧Below w.heap.size w w':=by
 have hu28:=Tryz.underlying28
 have HR0:=aE hr0
 have HC0:=aE hc0
 clear hr0 hc0
 have HB:=aE (Below.refl w.heap.size w)
 unfold spec_DrawOnEdge.f at h
 have H:=h
 clear h
 replace H:=eM H
 obtain ⟨⟨t103,t104,t105,t106,t107,t108⟩,A2,H⟩:=H
 try dsimp only at H
 replace H:=eM H
 obtain ⟨⟨t112,t113,t114⟩,A3,H⟩:=H
 try dsimp only at H
 replace H:=eM H
 obtain ⟨⟨t116,t117,t118⟩,A4,H⟩:=H
 try dsimp only at H
 by_cases c5:t116=true
 ·subst c5
  rw [if_pos rfl] at H
  simp only [Option.some.injEq,Prod.mk.injEq] at H
  obtain ⟨rfl,rfl,rfl,rfl⟩:=H
  go_enter Tryz.func8,Tryz.ntmps8
  go_wp2_with (first|((with_reducible refine aN (N:=2) rfl ?_);refine bV (N:=2) #[.int .i64 0,.int .i64 0] 28 ?_;intro gb101 hg w6 hbox hb;have BK101:=aE (hbox);have GW101:=aE ((dX HB hg));have GE101:=aE ((dX HB hg));replace HB:=aE (aD (aX HB) hb);clear hb hbox hg)|((with_reducible refine aN (N:=3) rfl ?_);refine bV (N:=3) #[.int .i64 0,.int .i64 0] 28 ?_;intro gb102 hg w7 hbox hb;have BK102:=aE (hbox);have GW102:=aE ((dX HB hg));have GE102:=aE ((dX HB hg));replace HB:=aE (aD (aX HB) hb);have NB101_102:=aE ((iX BK101 hg));have NB102_101:=aE ((iY BK101 hg));replace BK101:=aE (bB BK101 hb);clear hb hbox hg)|((with_reducible refine aJ (f:=33) rfl ?_);refine aV (some 10) Tryz.func33 #[.slice A0 l0.length c0] ?_;(with_reducible refine (qE k _ _ l0 t103 t104 t105 t106 t107 t108 _ ?side1 ?side2 A2.out).mono ?_);(case side1=>exact kJ (Kd.C_below HR0.out HB.out));(case side2=>exact HC0.out);rintro e w8 ⟨rfl,hb⟩;refine ⟨_,rfl,?_⟩;replace BK101:=aE (bB BK101 hb);replace BK102:=aE (bB BK102 hb);replace HB:=aE (aD (aX HB) hb);(try clear hb);(try clear hb2);(try clear hk);(try clear hi))|((with_reducible refine aN (N:=4) rfl ?_);refine bV (N:=4) #[.int .i64 0,.int .i64 0] 28 ?_;intro gb109 hg w9 hbox hb;have BK109:=aE (hbox);have GW109:=aE ((dX HB hg));have GE109:=aE ((dX HB hg));replace HB:=aE (aD (aX HB) hb);have NB101_109:=aE ((iX BK101 hg));have NB109_101:=aE ((iY BK101 hg));replace BK101:=aE (bB BK101 hb);have NB102_109:=aE ((iX BK102 hg));have NB109_102:=aE ((iY BK102 hg));replace BK102:=aE (bB BK102 hb);clear hb hbox hg)|((with_reducible refine aN (N:=5) rfl ?_);refine bV (N:=5) #[.int .i64 0,.int .i64 0] 28 ?_;intro gb110 hg w10 hbox hb;have BK110:=aE (hbox);have GW110:=aE ((dX HB hg));have GE110:=aE ((dX HB hg));replace HB:=aE (aD (aX HB) hb);have NB101_110:=aE ((iX BK101 hg));have NB110_101:=aE ((iY BK101 hg));replace BK101:=aE (bB BK101 hb);have NB102_110:=aE ((iX BK102 hg));have NB110_102:=aE ((iY BK102 hg));replace BK102:=aE (bB BK102 hb);have NB109_110:=aE ((iX BK109 hg));have NB110_109:=aE ((iY BK109 hg));replace BK109:=aE (bB BK109 hb);clear hb hbox hg)|((with_reducible refine aN (N:=6) rfl ?_);refine bV (N:=6) #[.int .i64 0,.int .i64 0] 28 ?_;intro gb111 hg w11 hbox hb;have BK111:=aE (hbox);have GW111:=aE ((dX HB hg));have GE111:=aE ((dX HB hg));replace HB:=aE (aD (aX HB) hb);have NB101_111:=aE ((iX BK101 hg));have NB111_101:=aE ((iY BK101 hg));replace BK101:=aE (bB BK101 hb);have NB102_111:=aE ((iX BK102 hg));have NB111_102:=aE ((iY BK102 hg));replace BK102:=aE (bB BK102 hb);have NB109_111:=aE ((iX BK109 hg));have NB111_109:=aE ((iY BK109 hg));replace BK109:=aE (bB BK109 hb);have NB110_111:=aE ((iX BK110 hg));have NB111_110:=aE ((iY BK110 hg));replace BK110:=aE (bB BK110 hb);clear hb hbox hg;have hnb12:=NB109_101.out;have hnc12:=NB101_109.out;have hnb13:=NB109_102.out;have hnc13:=NB102_109.out;have hnb14:=NB109_110.out;have hnc14:=NB110_109.out;have hnb15:=NB109_111.out;have hnc15:=NB111_109.out;have hcz16_0:=aW BK109 0;have hcz16_1:=aW BK109 1;have hfz16_0:=aA BK109.out 0;have hfz16_1:=aA BK109.out 1;have hnb17:=NB110_101.out;have hnc17:=NB101_110.out;have hnb18:=NB110_102.out;have hnc18:=NB102_110.out;have hnb19:=NB110_111.out;have hnc19:=NB111_110.out;have hcz20_0:=aW BK110 0;have hcz20_1:=aW BK110 1;have hfz20_0:=aA BK110.out 0;have hfz20_1:=aA BK110.out 1;have hnb21:=NB111_101.out;have hnc21:=NB101_111.out;have hnb22:=NB111_102.out;have hnc22:=NB102_111.out;have hcz23_0:=aW BK111 0;have hcz23_1:=aW BK111 1;have hfz23_0:=aA BK111.out 0;have hfz23_1:=aA BK111.out 1)|((with_reducible refine aJ (f:=29) rfl ?_);refine aV (some 15) Tryz.func29 #[.slice A0 l0.length c0] ?_;(with_reducible refine (kO k _ _ l0 t112 t113 t114 w _ ?side1 ?side2 ?side3 A3.out).mono ?_);(case side1=>exact aX HB);(case side2=>exact HR0.out);(case side3=>exact HC0.out);rintro e w24 ⟨g115,rfl,hi,hb,hb2⟩;refine ⟨_,rfl,?_⟩;replace HB:=aE (hb);have HI115:=aE (hi);have NB115_101:=aE (cD hi (aZ (g:=gb101) (o:=.cells #[.int .i64 0,.int .i64 0] 28 (0,0)) (jR BK101) hb2) (by decide));have NB101_115:=aE (Ne.symm (cD hi (aZ (g:=gb101) (o:=.cells #[.int .i64 0,.int .i64 0] 28 (0,0)) (jR BK101) hb2) (by decide)));replace BK101:=aE (aZ (g:=gb101) (o:=.cells #[.int .i64 0,.int .i64 0] 28 (0,0)) (jR BK101) hb2);have NB115_102:=aE (cD hi (aZ (g:=gb102) (o:=.cells #[.int .i64 0,.int .i64 0] 28 (0,0)) (jR BK102) hb2) (by decide));have NB102_115:=aE (Ne.symm (cD hi (aZ (g:=gb102) (o:=.cells #[.int .i64 0,.int .i64 0] 28 (0,0)) (jR BK102) hb2) (by decide)));replace BK102:=aE (aZ (g:=gb102) (o:=.cells #[.int .i64 0,.int .i64 0] 28 (0,0)) (jR BK102) hb2);have NB115_109:=aE (cD hi (aZ (g:=gb109) (o:=.cells #[.int .i64 t103,.int .i64 t104] 28 (0,0)) (jR BK109) hb2) (by decide));have NB109_115:=aE (Ne.symm (cD hi (aZ (g:=gb109) (o:=.cells #[.int .i64 t103,.int .i64 t104] 28 (0,0)) (jR BK109) hb2) (by decide)));replace BK109:=aE (aZ (g:=gb109) (o:=.cells #[.int .i64 t103,.int .i64 t104] 28 (0,0)) (jR BK109) hb2);have NB115_110:=aE (cD hi (aZ (g:=gb110) (o:=.cells #[.int .i64 t105,.int .i64 t106] 28 (0,0)) (by (with_reducible repeat (first|refine aM ?_ _|refine aI ?_|refine aK ?_ _));refine bC ?_ NB110_111.out _;(with_reducible repeat (first|refine aM ?_ _|refine aI ?_|refine aK ?_ _));refine bC ?_ NB110_111.out _;(with_reducible repeat (first|refine aM ?_ _|refine aI ?_|refine aK ?_ _));refine bQ (cs:=#[.int .i64 t105,.int .i64 0]) ?_ 1 _ rfl;(with_reducible repeat (first|refine aM ?_ _|refine aI ?_|refine aK ?_ _));refine bQ (cs:=#[.int .i64 0,.int .i64 0]) ?_ 0 _ rfl;(with_reducible repeat (first|refine aM ?_ _|refine aI ?_|refine aK ?_ _));refine bC ?_ NB110_109.out _;(with_reducible repeat (first|refine aM ?_ _|refine aI ?_|refine aK ?_ _));refine bC ?_ NB110_109.out _;(with_reducible repeat (first|refine aM ?_ _|refine aI ?_|refine aK ?_ _));exact BK110.out) hb2) (by decide));have NB110_115:=aE (Ne.symm (cD hi (aZ (g:=gb110) (o:=.cells #[.int .i64 t105,.int .i64 t106] 28 (0,0)) (by (with_reducible repeat (first|refine aM ?_ _|refine aI ?_|refine aK ?_ _));refine bC ?_ NB110_111.out _;(with_reducible repeat (first|refine aM ?_ _|refine aI ?_|refine aK ?_ _));refine bC ?_ NB110_111.out _;(with_reducible repeat (first|refine aM ?_ _|refine aI ?_|refine aK ?_ _));refine bQ (cs:=#[.int .i64 t105,.int .i64 0]) ?_ 1 _ rfl;(with_reducible repeat (first|refine aM ?_ _|refine aI ?_|refine aK ?_ _));refine bQ (cs:=#[.int .i64 0,.int .i64 0]) ?_ 0 _ rfl;(with_reducible repeat (first|refine aM ?_ _|refine aI ?_|refine aK ?_ _));refine bC ?_ NB110_109.out _;(with_reducible repeat (first|refine aM ?_ _|refine aI ?_|refine aK ?_ _));refine bC ?_ NB110_109.out _;(with_reducible repeat (first|refine aM ?_ _|refine aI ?_|refine aK ?_ _));exact BK110.out) hb2) (by decide)));replace BK110:=aE (aZ (g:=gb110) (o:=.cells #[.int .i64 t105,.int .i64 t106] 28 (0,0)) (by (with_reducible repeat (first|refine aM ?_ _|refine aI ?_|refine aK ?_ _));refine bC ?_ NB110_111.out _;(with_reducible repeat (first|refine aM ?_ _|refine aI ?_|refine aK ?_ _));refine bC ?_ NB110_111.out _;(with_reducible repeat (first|refine aM ?_ _|refine aI ?_|refine aK ?_ _));refine bQ (cs:=#[.int .i64 t105,.int .i64 0]) ?_ 1 _ rfl;(with_reducible repeat (first|refine aM ?_ _|refine aI ?_|refine aK ?_ _));refine bQ (cs:=#[.int .i64 0,.int .i64 0]) ?_ 0 _ rfl;(with_reducible repeat (first|refine aM ?_ _|refine aI ?_|refine aK ?_ _));refine bC ?_ NB110_109.out _;(with_reducible repeat (first|refine aM ?_ _|refine aI ?_|refine aK ?_ _));refine bC ?_ NB110_109.out _;(with_reducible repeat (first|refine aM ?_ _|refine aI ?_|refine aK ?_ _));exact BK110.out) hb2);have NB115_111:=aE (cD hi (aZ (g:=gb111) (o:=.cells #[.int .i64 t107,.int .i64 t108] 28 (0,0)) (by (with_reducible repeat (first|refine aM ?_ _|refine aI ?_|refine aK ?_ _));refine bQ (cs:=#[.int .i64 t107,.int .i64 0]) ?_ 1 _ rfl;(with_reducible repeat (first|refine aM ?_ _|refine aI ?_|refine aK ?_ _));refine bQ (cs:=#[.int .i64 0,.int .i64 0]) ?_ 0 _ rfl;(with_reducible repeat (first|refine aM ?_ _|refine aI ?_|refine aK ?_ _));refine bC ?_ NB111_110.out _;(with_reducible repeat (first|refine aM ?_ _|refine aI ?_|refine aK ?_ _));refine bC ?_ NB111_110.out _;(with_reducible repeat (first|refine aM ?_ _|refine aI ?_|refine aK ?_ _));refine bC ?_ NB111_109.out _;(with_reducible repeat (first|refine aM ?_ _|refine aI ?_|refine aK ?_ _));refine bC ?_ NB111_109.out _;(with_reducible repeat (first|refine aM ?_ _|refine aI ?_|refine aK ?_ _));exact BK111.out) hb2) (by decide));have NB111_115:=aE (Ne.symm (cD hi (aZ (g:=gb111) (o:=.cells #[.int .i64 t107,.int .i64 t108] 28 (0,0)) (by (with_reducible repeat (first|refine aM ?_ _|refine aI ?_|refine aK ?_ _));refine bQ (cs:=#[.int .i64 t107,.int .i64 0]) ?_ 1 _ rfl;(with_reducible repeat (first|refine aM ?_ _|refine aI ?_|refine aK ?_ _));refine bQ (cs:=#[.int .i64 0,.int .i64 0]) ?_ 0 _ rfl;(with_reducible repeat (first|refine aM ?_ _|refine aI ?_|refine aK ?_ _));refine bC ?_ NB111_110.out _;(with_reducible repeat (first|refine aM ?_ _|refine aI ?_|refine aK ?_ _));refine bC ?_ NB111_110.out _;(with_reducible repeat (first|refine aM ?_ _|refine aI ?_|refine aK ?_ _));refine bC ?_ NB111_109.out _;(with_reducible repeat (first|refine aM ?_ _|refine aI ?_|refine aK ?_ _));refine bC ?_ NB111_109.out _;(with_reducible repeat (first|refine aM ?_ _|refine aI ?_|refine aK ?_ _));exact BK111.out) hb2) (by decide)));replace BK111:=aE (aZ (g:=gb111) (o:=.cells #[.int .i64 t107,.int .i64 t108] 28 (0,0)) (by (with_reducible repeat (first|refine aM ?_ _|refine aI ?_|refine aK ?_ _));refine bQ (cs:=#[.int .i64 t107,.int .i64 0]) ?_ 1 _ rfl;(with_reducible repeat (first|refine aM ?_ _|refine aI ?_|refine aK ?_ _));refine bQ (cs:=#[.int .i64 0,.int .i64 0]) ?_ 0 _ rfl;(with_reducible repeat (first|refine aM ?_ _|refine aI ?_|refine aK ?_ _));refine bC ?_ NB111_110.out _;(with_reducible repeat (first|refine aM ?_ _|refine aI ?_|refine aK ?_ _));refine bC ?_ NB111_110.out _;(with_reducible repeat (first|refine aM ?_ _|refine aI ?_|refine aK ?_ _));refine bC ?_ NB111_109.out _;(with_reducible repeat (first|refine aM ?_ _|refine aI ?_|refine aK ?_ _));refine bC ?_ NB111_109.out _;(with_reducible repeat (first|refine aM ?_ _|refine aI ?_|refine aK ?_ _));exact BK111.out) hb2);(try clear hb);(try clear hb2);(try clear hk);(try clear hi))|((with_reducible refine aJ (f:=34) rfl ?_);refine aV (some 17) Tryz.func34 #[.pointer (some ⟨g115,0,none⟩),.int .i64 8] ?_;(with_reducible refine (mR g115 t112 t113 t114 8 true t117 t118 w _ ?side1 ?side2 A4.out).mono ?_);(case side1=>exact cQ HI115);(case side2=>exact gP HB (bD HI115.out));rintro e w25 ⟨rfl,hi,hb,hk⟩;refine ⟨_,rfl,?_⟩;replace BK101:=aE (cM.blk hk (g':=gb101) (o:=.cells #[.int .i64 0,.int .i64 0] 28 (0,0)) (fO BK101) NB101_115.out (by simp));replace BK102:=aE (cM.blk hk (g':=gb102) (o:=.cells #[.int .i64 0,.int .i64 0] 28 (0,0)) (fO BK102) NB102_115.out (by simp));replace BK109:=aE (cM.blk hk (g':=gb109) (o:=.cells #[.int .i64 t103,.int .i64 t104] 28 (0,0)) (fO BK109) NB109_115.out (by simp));replace BK110:=aE (cM.blk hk (g':=gb110) (o:=.cells #[.int .i64 t105,.int .i64 t106] 28 (0,0)) (fO BK110) NB110_115.out (by simp));replace BK111:=aE (cM.blk hk (g':=gb111) (o:=.cells #[.int .i64 t107,.int .i64 t108] 28 (0,0)) (fO BK111) NB111_115.out (by simp));replace HB:=aE (hb);replace HI115:=aE (hi);(try clear hb);(try clear hb2);(try clear hk);(try clear hi);have hnb26:=NB109_115.out;have hnc26:=NB115_109.out;have hcz27_0:=aW BK109 0;have hcz27_1:=aW BK109 1;have hfz27_0:=aA BK109.out 0;have hfz27_1:=aA BK109.out 1;have hnb28:=NB101_102.out;have hnc28:=NB102_101.out;have hnb29:=NB101_115.out;have hnc29:=NB115_101.out;have hcz30_0:=aW BK101 0;have hcz30_1:=aW BK101 1;have hfz30_0:=aA BK101.out 0;have hfz30_1:=aA BK101.out 1;have hnb31:=NB102_115.out;have hnc31:=NB115_102.out;have hcz32_0:=aW BK102 0;have hcz32_1:=aW BK102 1;have hfz32_0:=aA BK102.out 0;have hfz32_1:=aA BK102.out 1))
  refine bodyPost_ret (DL rfl _ _ gb101 gb102 28 28 #[.int .i64 t103,.int .i64 t104] #[.int .i64 1001,.int .i64 0] (0,0) (0,0) _ _ rfl (jR BK101) Tryz.underlying28 rfl (by kernel_rfl) rfl (by (with_reducible repeat (first|refine aM ?_ _|refine aI ?_|refine aK ?_ _));refine bQ (cs:=#[.int .i64 1001,.int .i64 0]) ?_ 1 _ rfl;(with_reducible repeat (first|refine aM ?_ _|refine aI ?_|refine aK ?_ _));refine bQ (cs:=#[.int .i64 0,.int .i64 0]) ?_ 0 _ rfl;(with_reducible repeat (first|refine aM ?_ _|refine aI ?_|refine aK ?_ _));refine bC ?_ NB102_101.out _;(with_reducible repeat (first|refine aM ?_ _|refine aI ?_|refine aK ?_ _));refine bC ?_ NB102_101.out _;(with_reducible repeat (first|refine aM ?_ _|refine aI ?_|refine aK ?_ _));exact BK102.out) Tryz.underlying28 rfl (by kernel_rfl)) rfl ?_
  exact ⟨bP,gP HB (bD HI115.out)⟩
 ·replace c5:=Bool.eq_false_iff.mpr c5
  subst c5
  rw [if_neg (show ¬ (false=true) by decide)] at H
  simp only [Option.some.injEq,Prod.mk.injEq] at H
  obtain ⟨rfl,rfl,rfl,rfl⟩:=H
  go_enter Tryz.func8,Tryz.ntmps8
  try go_wp2_with (first|((with_reducible refine aN (N:=2) rfl ?_);refine bV (N:=2) #[.int .i64 0,.int .i64 0] 28 ?_;intro gb101 hg w33 hbox hb;have BK101:=aE (hbox);have GW101:=aE ((dX HB hg));have GE101:=aE ((dX HB hg));replace HB:=aE (aD (aX HB) hb);clear hb hbox hg)|((with_reducible refine aN (N:=3) rfl ?_);refine bV (N:=3) #[.int .i64 0,.int .i64 0] 28 ?_;intro gb102 hg w34 hbox hb;have BK102:=aE (hbox);have GW102:=aE ((dX HB hg));have GE102:=aE ((dX HB hg));replace HB:=aE (aD (aX HB) hb);have NB101_102:=aE ((iX BK101 hg));have NB102_101:=aE ((iY BK101 hg));replace BK101:=aE (bB BK101 hb);clear hb hbox hg)|((with_reducible refine aJ (f:=33) rfl ?_);refine aV (some 10) Tryz.func33 #[.slice A0 l0.length c0] ?_;(with_reducible refine (qE k _ _ l0 t103 t104 t105 t106 t107 t108 _ ?side1 ?side2 A2.out).mono ?_);(case side1=>exact kJ (Kd.C_below HR0.out HB.out));(case side2=>exact HC0.out);rintro e w35 ⟨rfl,hb⟩;refine ⟨_,rfl,?_⟩;replace BK101:=aE (bB BK101 hb);replace BK102:=aE (bB BK102 hb);replace HB:=aE (aD (aX HB) hb);(try clear hb);(try clear hb2);(try clear hk);(try clear hi))|((with_reducible refine aN (N:=4) rfl ?_);refine bV (N:=4) #[.int .i64 0,.int .i64 0] 28 ?_;intro gb109 hg w36 hbox hb;have BK109:=aE (hbox);have GW109:=aE ((dX HB hg));have GE109:=aE ((dX HB hg));replace HB:=aE (aD (aX HB) hb);have NB101_109:=aE ((iX BK101 hg));have NB109_101:=aE ((iY BK101 hg));replace BK101:=aE (bB BK101 hb);have NB102_109:=aE ((iX BK102 hg));have NB109_102:=aE ((iY BK102 hg));replace BK102:=aE (bB BK102 hb);clear hb hbox hg)|((with_reducible refine aN (N:=5) rfl ?_);refine bV (N:=5) #[.int .i64 0,.int .i64 0] 28 ?_;intro gb110 hg w37 hbox hb;have BK110:=aE (hbox);have GW110:=aE ((dX HB hg));have GE110:=aE ((dX HB hg));replace HB:=aE (aD (aX HB) hb);have NB101_110:=aE ((iX BK101 hg));have NB110_101:=aE ((iY BK101 hg));replace BK101:=aE (bB BK101 hb);have NB102_110:=aE ((iX BK102 hg));have NB110_102:=aE ((iY BK102 hg));replace BK102:=aE (bB BK102 hb);have NB109_110:=aE ((iX BK109 hg));have NB110_109:=aE ((iY BK109 hg));replace BK109:=aE (bB BK109 hb);clear hb hbox hg)|((with_reducible refine aN (N:=6) rfl ?_);refine bV (N:=6) #[.int .i64 0,.int .i64 0] 28 ?_;intro gb111 hg w38 hbox hb;have BK111:=aE (hbox);have GW111:=aE ((dX HB hg));have GE111:=aE ((dX HB hg));replace HB:=aE (aD (aX HB) hb);have NB101_111:=aE ((iX BK101 hg));have NB111_101:=aE ((iY BK101 hg));replace BK101:=aE (bB BK101 hb);have NB102_111:=aE ((iX BK102 hg));have NB111_102:=aE ((iY BK102 hg));replace BK102:=aE (bB BK102 hb);have NB109_111:=aE ((iX BK109 hg));have NB111_109:=aE ((iY BK109 hg));replace BK109:=aE (bB BK109 hb);have NB110_111:=aE ((iX BK110 hg));have NB111_110:=aE ((iY BK110 hg));replace BK110:=aE (bB BK110 hb);clear hb hbox hg;have hnb39:=NB109_101.out;have hnc39:=NB101_109.out;have hnb40:=NB109_102.out;have hnc40:=NB102_109.out;have hnb41:=NB109_110.out;have hnc41:=NB110_109.out;have hnb42:=NB109_111.out;have hnc42:=NB111_109.out;have hcz43_0:=aW BK109 0;have hcz43_1:=aW BK109 1;have hfz43_0:=aA BK109.out 0;have hfz43_1:=aA BK109.out 1;have hnb44:=NB110_101.out;have hnc44:=NB101_110.out;have hnb45:=NB110_102.out;have hnc45:=NB102_110.out;have hnb46:=NB110_111.out;have hnc46:=NB111_110.out;have hcz47_0:=aW BK110 0;have hcz47_1:=aW BK110 1;have hfz47_0:=aA BK110.out 0;have hfz47_1:=aA BK110.out 1;have hnb48:=NB111_101.out;have hnc48:=NB101_111.out;have hnb49:=NB111_102.out;have hnc49:=NB102_111.out;have hcz50_0:=aW BK111 0;have hcz50_1:=aW BK111 1;have hfz50_0:=aA BK111.out 0;have hfz50_1:=aA BK111.out 1)|((with_reducible refine aJ (f:=29) rfl ?_);refine aV (some 15) Tryz.func29 #[.slice A0 l0.length c0] ?_;(with_reducible refine (kO k _ _ l0 t112 t113 t114 w _ ?side1 ?side2 ?side3 A3.out).mono ?_);(case side1=>exact aX HB);(case side2=>exact HR0.out);(case side3=>exact HC0.out);rintro e w51 ⟨g115,rfl,hi,hb,hb2⟩;refine ⟨_,rfl,?_⟩;replace HB:=aE (hb);have HI115:=aE (hi);have NB115_101:=aE (cD hi (aZ (g:=gb101) (o:=.cells #[.int .i64 0,.int .i64 0] 28 (0,0)) (jR BK101) hb2) (by decide));have NB101_115:=aE (Ne.symm (cD hi (aZ (g:=gb101) (o:=.cells #[.int .i64 0,.int .i64 0] 28 (0,0)) (jR BK101) hb2) (by decide)));replace BK101:=aE (aZ (g:=gb101) (o:=.cells #[.int .i64 0,.int .i64 0] 28 (0,0)) (jR BK101) hb2);have NB115_102:=aE (cD hi (aZ (g:=gb102) (o:=.cells #[.int .i64 0,.int .i64 0] 28 (0,0)) (jR BK102) hb2) (by decide));have NB102_115:=aE (Ne.symm (cD hi (aZ (g:=gb102) (o:=.cells #[.int .i64 0,.int .i64 0] 28 (0,0)) (jR BK102) hb2) (by decide)));replace BK102:=aE (aZ (g:=gb102) (o:=.cells #[.int .i64 0,.int .i64 0] 28 (0,0)) (jR BK102) hb2);have NB115_109:=aE (cD hi (aZ (g:=gb109) (o:=.cells #[.int .i64 t103,.int .i64 t104] 28 (0,0)) (jR BK109) hb2) (by decide));have NB109_115:=aE (Ne.symm (cD hi (aZ (g:=gb109) (o:=.cells #[.int .i64 t103,.int .i64 t104] 28 (0,0)) (jR BK109) hb2) (by decide)));replace BK109:=aE (aZ (g:=gb109) (o:=.cells #[.int .i64 t103,.int .i64 t104] 28 (0,0)) (jR BK109) hb2);have NB115_110:=aE (cD hi (aZ (g:=gb110) (o:=.cells #[.int .i64 t105,.int .i64 t106] 28 (0,0)) (by (with_reducible repeat (first|refine aM ?_ _|refine aI ?_|refine aK ?_ _));refine bC ?_ NB110_111.out _;(with_reducible repeat (first|refine aM ?_ _|refine aI ?_|refine aK ?_ _));refine bC ?_ NB110_111.out _;(with_reducible repeat (first|refine aM ?_ _|refine aI ?_|refine aK ?_ _));refine bQ (cs:=#[.int .i64 t105,.int .i64 0]) ?_ 1 _ rfl;(with_reducible repeat (first|refine aM ?_ _|refine aI ?_|refine aK ?_ _));refine bQ (cs:=#[.int .i64 0,.int .i64 0]) ?_ 0 _ rfl;(with_reducible repeat (first|refine aM ?_ _|refine aI ?_|refine aK ?_ _));refine bC ?_ NB110_109.out _;(with_reducible repeat (first|refine aM ?_ _|refine aI ?_|refine aK ?_ _));refine bC ?_ NB110_109.out _;(with_reducible repeat (first|refine aM ?_ _|refine aI ?_|refine aK ?_ _));exact BK110.out) hb2) (by decide));have NB110_115:=aE (Ne.symm (cD hi (aZ (g:=gb110) (o:=.cells #[.int .i64 t105,.int .i64 t106] 28 (0,0)) (by (with_reducible repeat (first|refine aM ?_ _|refine aI ?_|refine aK ?_ _));refine bC ?_ NB110_111.out _;(with_reducible repeat (first|refine aM ?_ _|refine aI ?_|refine aK ?_ _));refine bC ?_ NB110_111.out _;(with_reducible repeat (first|refine aM ?_ _|refine aI ?_|refine aK ?_ _));refine bQ (cs:=#[.int .i64 t105,.int .i64 0]) ?_ 1 _ rfl;(with_reducible repeat (first|refine aM ?_ _|refine aI ?_|refine aK ?_ _));refine bQ (cs:=#[.int .i64 0,.int .i64 0]) ?_ 0 _ rfl;(with_reducible repeat (first|refine aM ?_ _|refine aI ?_|refine aK ?_ _));refine bC ?_ NB110_109.out _;(with_reducible repeat (first|refine aM ?_ _|refine aI ?_|refine aK ?_ _));refine bC ?_ NB110_109.out _;(with_reducible repeat (first|refine aM ?_ _|refine aI ?_|refine aK ?_ _));exact BK110.out) hb2) (by decide)));replace BK110:=aE (aZ (g:=gb110) (o:=.cells #[.int .i64 t105,.int .i64 t106] 28 (0,0)) (by (with_reducible repeat (first|refine aM ?_ _|refine aI ?_|refine aK ?_ _));refine bC ?_ NB110_111.out _;(with_reducible repeat (first|refine aM ?_ _|refine aI ?_|refine aK ?_ _));refine bC ?_ NB110_111.out _;(with_reducible repeat (first|refine aM ?_ _|refine aI ?_|refine aK ?_ _));refine bQ (cs:=#[.int .i64 t105,.int .i64 0]) ?_ 1 _ rfl;(with_reducible repeat (first|refine aM ?_ _|refine aI ?_|refine aK ?_ _));refine bQ (cs:=#[.int .i64 0,.int .i64 0]) ?_ 0 _ rfl;(with_reducible repeat (first|refine aM ?_ _|refine aI ?_|refine aK ?_ _));refine bC ?_ NB110_109.out _;(with_reducible repeat (first|refine aM ?_ _|refine aI ?_|refine aK ?_ _));refine bC ?_ NB110_109.out _;(with_reducible repeat (first|refine aM ?_ _|refine aI ?_|refine aK ?_ _));exact BK110.out) hb2);have NB115_111:=aE (cD hi (aZ (g:=gb111) (o:=.cells #[.int .i64 t107,.int .i64 t108] 28 (0,0)) (by (with_reducible repeat (first|refine aM ?_ _|refine aI ?_|refine aK ?_ _));refine bQ (cs:=#[.int .i64 t107,.int .i64 0]) ?_ 1 _ rfl;(with_reducible repeat (first|refine aM ?_ _|refine aI ?_|refine aK ?_ _));refine bQ (cs:=#[.int .i64 0,.int .i64 0]) ?_ 0 _ rfl;(with_reducible repeat (first|refine aM ?_ _|refine aI ?_|refine aK ?_ _));refine bC ?_ NB111_110.out _;(with_reducible repeat (first|refine aM ?_ _|refine aI ?_|refine aK ?_ _));refine bC ?_ NB111_110.out _;(with_reducible repeat (first|refine aM ?_ _|refine aI ?_|refine aK ?_ _));refine bC ?_ NB111_109.out _;(with_reducible repeat (first|refine aM ?_ _|refine aI ?_|refine aK ?_ _));refine bC ?_ NB111_109.out _;(with_reducible repeat (first|refine aM ?_ _|refine aI ?_|refine aK ?_ _));exact BK111.out) hb2) (by decide));have NB111_115:=aE (Ne.symm (cD hi (aZ (g:=gb111) (o:=.cells #[.int .i64 t107,.int .i64 t108] 28 (0,0)) (by (with_reducible repeat (first|refine aM ?_ _|refine aI ?_|refine aK ?_ _));refine bQ (cs:=#[.int .i64 t107,.int .i64 0]) ?_ 1 _ rfl;(with_reducible repeat (first|refine aM ?_ _|refine aI ?_|refine aK ?_ _));refine bQ (cs:=#[.int .i64 0,.int .i64 0]) ?_ 0 _ rfl;(with_reducible repeat (first|refine aM ?_ _|refine aI ?_|refine aK ?_ _));refine bC ?_ NB111_110.out _;(with_reducible repeat (first|refine aM ?_ _|refine aI ?_|refine aK ?_ _));refine bC ?_ NB111_110.out _;(with_reducible repeat (first|refine aM ?_ _|refine aI ?_|refine aK ?_ _));refine bC ?_ NB111_109.out _;(with_reducible repeat (first|refine aM ?_ _|refine aI ?_|refine aK ?_ _));refine bC ?_ NB111_109.out _;(with_reducible repeat (first|refine aM ?_ _|refine aI ?_|refine aK ?_ _));exact BK111.out) hb2) (by decide)));replace BK111:=aE (aZ (g:=gb111) (o:=.cells #[.int .i64 t107,.int .i64 t108] 28 (0,0)) (by (with_reducible repeat (first|refine aM ?_ _|refine aI ?_|refine aK ?_ _));refine bQ (cs:=#[.int .i64 t107,.int .i64 0]) ?_ 1 _ rfl;(with_reducible repeat (first|refine aM ?_ _|refine aI ?_|refine aK ?_ _));refine bQ (cs:=#[.int .i64 0,.int .i64 0]) ?_ 0 _ rfl;(with_reducible repeat (first|refine aM ?_ _|refine aI ?_|refine aK ?_ _));refine bC ?_ NB111_110.out _;(with_reducible repeat (first|refine aM ?_ _|refine aI ?_|refine aK ?_ _));refine bC ?_ NB111_110.out _;(with_reducible repeat (first|refine aM ?_ _|refine aI ?_|refine aK ?_ _));refine bC ?_ NB111_109.out _;(with_reducible repeat (first|refine aM ?_ _|refine aI ?_|refine aK ?_ _));refine bC ?_ NB111_109.out _;(with_reducible repeat (first|refine aM ?_ _|refine aI ?_|refine aK ?_ _));exact BK111.out) hb2);(try clear hb);(try clear hb2);(try clear hk);(try clear hi))|((with_reducible refine aJ (f:=34) rfl ?_);refine aV (some 17) Tryz.func34 #[.pointer (some ⟨g115,0,none⟩),.int .i64 8] ?_;(with_reducible refine (mR g115 t112 t113 t114 8 false t117 t118 w _ ?side1 ?side2 A4.out).mono ?_);(case side1=>exact cQ HI115);(case side2=>exact gP HB (bD HI115.out));rintro e w52 ⟨rfl,hi,hb,hk⟩;refine ⟨_,rfl,?_⟩;replace BK101:=aE (cM.blk hk (g':=gb101) (o:=.cells #[.int .i64 0,.int .i64 0] 28 (0,0)) (fO BK101) NB101_115.out (by simp));replace BK102:=aE (cM.blk hk (g':=gb102) (o:=.cells #[.int .i64 0,.int .i64 0] 28 (0,0)) (fO BK102) NB102_115.out (by simp));replace BK109:=aE (cM.blk hk (g':=gb109) (o:=.cells #[.int .i64 t103,.int .i64 t104] 28 (0,0)) (fO BK109) NB109_115.out (by simp));replace BK110:=aE (cM.blk hk (g':=gb110) (o:=.cells #[.int .i64 t105,.int .i64 t106] 28 (0,0)) (fO BK110) NB110_115.out (by simp));replace BK111:=aE (cM.blk hk (g':=gb111) (o:=.cells #[.int .i64 t107,.int .i64 t108] 28 (0,0)) (fO BK111) NB111_115.out (by simp));replace HB:=aE (hb);replace HI115:=aE (hi);(try clear hb);(try clear hb2);(try clear hk);(try clear hi)))
  replace BK101:=aE (aI BK101.out)
  replace BK102:=aE (aI BK102.out)
  replace BK109:=aE (aI BK109.out)
  replace BK110:=aE (aI BK110.out)
  replace BK111:=aE (aI BK111.out)
  replace HI115:=aE (dR.drew HI115.out)
  replace HB:=aE (jK HB.out)
  refine dA (n:=4) (S:=fun w'=>w'.cell? ⟨gb109,0,none⟩=some (.int .i64 t103)∧w'.cell? ⟨gb109,1,none⟩=some (.int .i64 t104)∧w'.cell? ⟨gb110,0,none⟩=some (.int .i64 t105)∧w'.cell? ⟨gb110,1,none⟩=some (.int .i64 t106)) (ds:=[]) (bm 4 0) (by kernel_rfl) rfl rfl ⟨aW BK109 0,aW BK109 1,aW BK110 0,aW BK110 1⟩ (fun hHeld=>?_)
  generalize w52.drew=w53 at BK101 BK102 BK109 BK110 BK111 HI115 HB hHeld ⊢
  refine qW (i:=0) (N:=some 20) (v:=?_) (a':=?_) (bm 4 1) rfl rfl (by kernel_rfl) (fun _ _ _ h=>h) (Or.inl ⟨by rfl,?_⟩) hHeld ?_ ?_
  rotate_left
  ·rintro w' ⟨s0,s1,s2,s3⟩
   go_simp
   with_reducible rfl
  rotate_left
  ·simp only [Act.put,List.setIfInBounds_toArray,List.set_cons_zero,List.set_cons_succ,cC,dW]
   rfl
  refine qW (i:=1) (N:=some 21) (v:=?_) (a':=?_) (bm 4 3) rfl rfl (by kernel_rfl) (fun _ _ _ h=>h) (Or.inl ⟨by rfl,?_⟩) hHeld ?_ ?_
  rotate_left
  ·rintro w' ⟨s0,s1,s2,s3⟩
   go_simp
   with_reducible rfl
  rotate_left
  ·simp only [Act.put,List.setIfInBounds_toArray,List.set_cons_zero,List.set_cons_succ,cC,dW]
   rfl
  refine dQ (i:=2) (N:=none) (bm 4 7) rfl rfl (by kernel_rfl) (by decide) (fun K hK=>?_)
  have hs54:w53.cell? ⟨gb101,0,none⟩=some (.int .i64 0):=aW BK101 0
  have hfs54:=aA BK101.out 0
  have hns54_1:=NB102_101.out
  have hns54_2:=NB109_101.out
  have hns54_3:=NB110_101.out
  have hns54_4:=NB111_101.out
  have hms54_1:=NB101_102.out
  have hms54_2:=NB101_109.out
  have hms54_3:=NB101_110.out
  have hms54_4:=NB101_111.out
  have hs55:w53.cell? ⟨gb101,1,none⟩=some (.int .i64 0):=aW BK101 1
  have hfs55:=aA BK101.out 1
  have hns55_1:=NB102_101.out
  have hns55_2:=NB109_101.out
  have hns55_3:=NB110_101.out
  have hns55_4:=NB111_101.out
  have hms55_1:=NB101_102.out
  have hms55_2:=NB101_109.out
  have hms55_3:=NB101_110.out
  have hms55_4:=NB101_111.out
  refine kY (w1:=?_) (by rfl) rfl ?_ ?_
  rotate_left
  ·go_simp
   rfl
  refine hK.out _ _ ⟨(lT NB109_101 ((lT NB109_101 hHeld.1))),(lT NB109_101 ((lT NB109_101 hHeld.2.1))),(lT NB110_101 ((lT NB110_101 hHeld.2.2.1))),(lT NB110_101 ((lT NB110_101 hHeld.2.2.2)))⟩ (fun hHeld=>?_)
  clear hK K
  refine dQ (i:=3) (N:=none) (bm 4 15) rfl rfl (by kernel_rfl) (by decide) (fun K hK=>?_)
  have hs56:w53.cell? ⟨gb102,0,none⟩=some (.int .i64 0):=aW BK102 0
  have hfs56:=aA BK102.out 0
  have hns56_0:=NB101_102.out
  have hns56_2:=NB109_102.out
  have hns56_3:=NB110_102.out
  have hns56_4:=NB111_102.out
  have hms56_0:=NB102_101.out
  have hms56_2:=NB102_109.out
  have hms56_3:=NB102_110.out
  have hms56_4:=NB102_111.out
  have hs57:w53.cell? ⟨gb102,1,none⟩=some (.int .i64 0):=aW BK102 1
  have hfs57:=aA BK102.out 1
  have hns57_0:=NB101_102.out
  have hns57_2:=NB109_102.out
  have hns57_3:=NB110_102.out
  have hns57_4:=NB111_102.out
  have hms57_0:=NB102_101.out
  have hms57_2:=NB102_109.out
  have hms57_3:=NB102_110.out
  have hms57_4:=NB102_111.out
  refine kY (w1:=?_) (by rfl) rfl ?_ ?_
  rotate_left
  ·go_simp
   rfl
  refine hK.out _ _ ⟨(lT NB109_102 ((lT NB109_102 hHeld.1))),(lT NB109_102 ((lT NB109_102 hHeld.2.1))),(lT NB110_102 ((lT NB110_102 hHeld.2.2.1))),(lT NB110_102 ((lT NB110_102 hHeld.2.2.2)))⟩ (fun hHeld=>?_)
  clear hK K
  refine eN (by kernel_rfl) ?_
  try go_wp2
  refine bodyPost_ret (DL rfl _ _ gb101 gb102 28 28 #[.int .i64 t103,.int .i64 t104] #[.int .i64 t105,.int .i64 t106] (0,0) (0,0) _ _ rfl (jR BK101) Tryz.underlying28 rfl (by kernel_rfl) rfl (by (with_reducible repeat (first|refine aM ?_ _|refine aI ?_|refine aK ?_ _));refine bQ (cs:=#[.int .i64 t105,.int .i64 0]) ?_ 1 _ rfl;(with_reducible repeat (first|refine aM ?_ _|refine aI ?_|refine aK ?_ _));refine bQ (cs:=#[.int .i64 0,.int .i64 0]) ?_ 0 _ rfl;(with_reducible repeat (first|refine aM ?_ _|refine aI ?_|refine aK ?_ _));refine bC ?_ NB102_101.out _;(with_reducible repeat (first|refine aM ?_ _|refine aI ?_|refine aK ?_ _));refine bC ?_ NB102_101.out _;(with_reducible repeat (first|refine aM ?_ _|refine aI ?_|refine aK ?_ _));exact BK102.out) Tryz.underlying28 rfl (by kernel_rfl)) rfl ?_
  exact ⟨bP,gP HB (bD HI115.out)⟩
/-! ### spec_l1Bit: function 43 -/
def spec_l1Bit.f (a0:Bool):Option (Int):=if a0=true then (some 1) else (some 0)
set_option maxHeartbeats 8000000 in
set_option maxRecDepth 100000 in
theorem rH (a0:Bool) (r:Int) (w:World) (h:spec_l1Bit.f a0=some r) :
  Calls Tryz.prog 43 #[.bool a0] w fun e w'=>e=.returned (.int .i64 r)∧gH w w':=by
 unfold spec_l1Bit.f at h
 have H:=h
 clear h
 by_cases c2:a0=true
 ·subst c2
  rw [if_pos rfl] at H
  obtain rfl:=Option.some.inj H
  go_enter Tryz.func43,Tryz.ntmps43
  go_wp2
  go_ret
  exact ⟨aH,by repeat (first|exact gH.refl _|apply bF)⟩
 ·replace c2:=Bool.eq_false_iff.mpr c2
  subst c2
  rw [if_neg (show ¬ (false=true) by decide)] at H
  obtain rfl:=Option.some.inj H
  go_enter Tryz.func43,Tryz.ntmps43
  go_wp2
  go_ret
  exact ⟨aH,by repeat (first|exact gH.refl _|apply bF)⟩
/-! ### spec_l23Case: function 35 -/
def spec_l23Case.f (k:Nat) (l0:List Int):Option ((List (cF))×Int×Int×Int):=(spec_l1New.f k l0).bind fun bt102=>((spec_l2Bent.f k bt102.1 bt102.2.1 bt102.2.2).bind fun bt106=>((spec_l1Below.f bt102.1 bt106.2.1 bt106.2.2 (bt106.1.length:Int)).bind fun bt111=>((spec_l1Once.f bt102.1 bt111.2.1 bt111.2.2 14).bind fun bt114=>((spec_l1Bit.f bt114.1).bind fun t117=>((spec_l1Below.f bt102.1 bt114.2.1 bt114.2.2 13).bind fun bt118=>((spec_l1Below.f bt102.1 bt118.2.1 bt118.2.2 13).bind fun bt121=>(some (bt106.1,wrap64 (bt111.1-t117),wrap64 (bt118.1-6),wrap64 (bt121.1-6)))))))))
set_option maxHeartbeats 8000000 in
set_option maxRecDepth 100000 in
theorem xY (k:Nat) (A0:Option Addr) (c0:Nat) (l0:List Int) (r1:List (cF)) (r2:Int) (r3:Int) (r4:Int) (w:World) (hr0:Kd.C (Kd.int .u8) w A0 l0.length l0) (hc0:l0.length≤c0) (h:spec_l23Case.f k l0=some (r1,r2,r3,r4)) :
  Calls Tryz.prog 35 #[.slice A0 l0.length c0] w fun e w'=>∃ v0_:Value,e=.returned (.tuple #[v0_,.int .i64 r2,.agg #[.int .i64 r3,.int .i64 r4]])∧Kd.R jW 28 w' w.heap.size (fun _=>True) v0_ r1∧Below w.heap.size w w':=by
 have hu28:=Tryz.underlying28
 have HR0:=aE hr0
 have HC0:=aE hc0
 clear hr0 hc0
 have HB:=aE (Below.refl w.heap.size w)
 unfold spec_l23Case.f at h
 have H:=h
 clear h
 replace H:=eM H
 obtain ⟨⟨t102,t103,t104⟩,A2,H⟩:=H
 try dsimp only at H
 replace H:=eM H
 obtain ⟨⟨t106,t109,t110⟩,A3,H⟩:=H
 try dsimp only at H
 replace H:=eM H
 obtain ⟨⟨t111,t112,t113⟩,A4,H⟩:=H
 try dsimp only at H
 replace H:=eM H
 obtain ⟨⟨t114,t115,t116⟩,A5,H⟩:=H
 try dsimp only at H
 replace H:=DB H
 obtain ⟨t117,A60,H⟩:=H
 replace H:((spec_l1Below.f t102 t115 t116 13).bind fun bt118=>((spec_l1Below.f t102 bt118.2.1 bt118.2.2 13).bind fun bt121=>(some (t106,wrap64 (t111-t117),wrap64 (bt118.1-6),wrap64 (bt121.1-6)))))=some (r1,r2,r3,r4):=H
 have A6:=aE A60
 clear A60
 replace H:=eM H
 obtain ⟨⟨t118,t119,t120⟩,A7,H⟩:=H
 try dsimp only at H
 replace H:=eM H
 obtain ⟨⟨t121,t122,t123⟩,A8,H⟩:=H
 try dsimp only at H
 simp only [Option.some.injEq,Prod.mk.injEq] at H
 obtain ⟨rfl,rfl,rfl,rfl⟩:=H
 go_enter Tryz.func35,Tryz.ntmps35
 go_wp2_with (first|((with_reducible refine aN (N:=4) rfl ?_);refine bV (N:=4) #[.int .i64 0,.int .i64 0] 28 ?_;intro gb101 hg w9 hbox hb;have BK101:=aE (hbox);have GW101:=aE ((dX HB hg));have GE101:=aE ((dX HB hg));replace HB:=aE (aD (aX HB) hb);clear hb hbox hg)|((with_reducible refine aJ (f:=29) rfl ?_);refine aV (some 8) Tryz.func29 #[.slice A0 l0.length c0] ?_;(with_reducible refine (kO k _ _ l0 t102 t103 t104 w _ ?side1 ?side2 ?side3 A2.out).mono ?_);(case side1=>exact aX HB);(case side2=>exact HR0.out);(case side3=>exact HC0.out);rintro e w10 ⟨g105,rfl,hi,hb,hb2⟩;refine ⟨_,rfl,?_⟩;replace HB:=aE (hb);have HI105:=aE (hi);have NB105_101:=aE (cD hi (aZ (g:=gb101) (o:=.cells #[.int .i64 0,.int .i64 0] 28 (0,0)) (fO BK101) hb2) (by decide));have NB101_105:=aE (Ne.symm (cD hi (aZ (g:=gb101) (o:=.cells #[.int .i64 0,.int .i64 0] 28 (0,0)) (fO BK101) hb2) (by decide)));replace BK101:=aE (aZ (g:=gb101) (o:=.cells #[.int .i64 0,.int .i64 0] 28 (0,0)) (fO BK101) hb2);(try clear hb);(try clear hb2);(try clear hk);(try clear hi))|((with_reducible refine aJ (f:=28) rfl ?_);refine aV (some 10) Tryz.func28 #[.pointer (some ⟨g105,0,none⟩)] ?_;(with_reducible refine (qZ k g105 t102 t103 t104 t106 t109 t110 w _ ?side1 ?side2 A3.out).mono ?_);(case side1=>exact cQ HI105);(case side2=>exact gP HB (bD HI105.out));rintro e w11 ⟨v107,rfl,ho0,hi,hb,hk⟩;refine ⟨_,rfl,?_⟩;have HO108:=aE (Kd.R_lower (Kd.R_newB ho0 (g:=gb101) (o:=.cells #[.int .i64 0,.int .i64 0] 28 (0,0)) (fO BK101)) (aT (gP HB (bD HI105.out))));replace BK101:=aE (cM.blk hk (g':=gb101) (o:=.cells #[.int .i64 0,.int .i64 0] 28 (0,0)) (fO BK101) NB101_105.out (by simp));replace HB:=aE (hb);replace HI105:=aE (hi);(try clear hb);(try clear hb2);(try clear hk);(try clear hi);(try clear ho0);obtain ⟨Ao12,co12,eo12⟩:=Kd.R_slice HO108.out;subst eo12)|((with_reducible refine aJ (f:=61) rfl ?_);refine aV (some 15) Tryz.func61 #[.pointer (some ⟨g105,0,none⟩),.int .i64 (t106.length:Int)] ?_;(with_reducible refine (dN g105 t102 t109 t110 (t106.length:Int) t111 t112 t113 w _ ?side1 ?side2 A4.out).mono ?_);(case side1=>exact cQ HI105);(case side2=>exact gP HB (bD HI105.out));rintro e w13 ⟨rfl,hi,hb,hk⟩;refine ⟨_,rfl,?_⟩;replace BK101:=aE (cM.blk hk (g':=gb101) (o:=.cells #[.int .i64 0,.int .i64 0] 28 (0,0)) (fO BK101) NB101_105.out (by simp));replace HO108:=aE (Kd.R_mono (Kd.R_keep (dR.apart (show dR w _ g105 t102 t109 t110 from cQ HI105) (bN HO108) (by decide)) hk (fun _ h=>h.2)) (fun _ h=>h.1));replace HB:=aE (hb);replace HI105:=aE (hi);(try clear hb);(try clear hb2);(try clear hk);(try clear hi))|((with_reducible refine aJ (f:=34) rfl ?_);refine aV (some 17) Tryz.func34 #[.pointer (some ⟨g105,0,none⟩),.int .i64 14] ?_;(with_reducible refine (mR g105 t102 t112 t113 14 t114 t115 t116 w _ ?side1 ?side2 A5.out).mono ?_);(case side1=>exact cQ HI105);(case side2=>exact gP HB (bD HI105.out));rintro e w14 ⟨rfl,hi,hb,hk⟩;refine ⟨_,rfl,?_⟩;replace BK101:=aE (cM.blk hk (g':=gb101) (o:=.cells #[.int .i64 0,.int .i64 0] 28 (0,0)) (fO BK101) NB101_105.out (by simp));replace HO108:=aE (Kd.R_mono (Kd.R_keep (dR.apart (show dR w _ g105 t102 t112 t113 from cQ HI105) (bN HO108) (by decide)) hk (fun _ h=>h.2)) (fun _ h=>h.1));replace HB:=aE (hb);replace HI105:=aE (hi);(try clear hb);(try clear hb2);(try clear hk);(try clear hi))|((with_reducible refine aJ (f:=43) rfl ?_);refine aV (some 18) Tryz.func43 #[.bool t114] ?_;(with_reducible refine (rH t114 t117 _ A6.out).mono ?_);rintro e w' ⟨rfl,⟨nd,rfl⟩⟩;refine ⟨_,rfl,?_⟩;(try (rw [nI w14];generalize hq_:World.drewN w14 _=w14;have n0_:Aside0 (Kd.R jW 28 w14 w.heap.size (fun k_=>k_≠gb101) (.slice Ao12 t106.length co12) t106):=⟨by rw [← hq_];exact (by (with_reducible repeat (first|apply kD|apply kE|apply gU));exact Kd.R_mono HO108.out (fun _ hk=>hk.2))⟩;have n1_:Aside0 (w14.heap[gb101]? = some (.cells #[.int .i64 0,.int .i64 0] 28 (0,0))):=⟨by rw [← hq_];exact (fO BK101)⟩;have n2_:Aside0 (dR w w14 g105 t102 t115 t116):=⟨by rw [← hq_];exact (cQ HI105)⟩;have n3_:Aside0 (Below w.heap.size w w14):=⟨by rw [← hq_];exact (gP HB (bD HI105.out))⟩;clear HO108 BK101 HI105 HB hq_;have HO108:=n0_;have BK101:=n1_;have HI105:=n2_;have HB:=n3_;clear n0_ n1_ n2_ n3_)))|((with_reducible refine aJ (f:=61) rfl ?_);refine aV (some 21) Tryz.func61 #[.pointer (some ⟨g105,0,none⟩),.int .i64 13] ?_;(with_reducible refine (dN g105 t102 t115 t116 13 t118 t119 t120 w _ ?side1 ?side2 A7.out).mono ?_);(case side1=>exact cQ HI105);(case side2=>exact gP HB (bD HI105.out));rintro e w15 ⟨rfl,hi,hb,hk⟩;refine ⟨_,rfl,?_⟩;replace BK101:=aE (cM.blk hk (g':=gb101) (o:=.cells #[.int .i64 0,.int .i64 0] 28 (0,0)) (fO BK101) NB101_105.out (by simp));replace HO108:=aE (Kd.R_mono (Kd.R_keep (dR.apart (show dR w _ g105 t102 t115 t116 from cQ HI105) (bN HO108) (by decide)) hk (fun _ h=>h.2)) (fun _ h=>h.1));replace HB:=aE (hb);replace HI105:=aE (hi);(try clear hb);(try clear hb2);(try clear hk);(try clear hi))|((with_reducible refine aJ (f:=61) rfl ?_);refine aV (some 24) Tryz.func61 #[.pointer (some ⟨g105,0,none⟩),.int .i64 13] ?_;(with_reducible refine (dN g105 t102 t119 t120 13 t121 t122 t123 w _ ?side1 ?side2 A8.out).mono ?_);(case side1=>exact cQ HI105);(case side2=>exact gP HB (bD HI105.out));rintro e w16 ⟨rfl,hi,hb,hk⟩;refine ⟨_,rfl,?_⟩;replace BK101:=aE (cM.blk hk (g':=gb101) (o:=.cells #[.int .i64 0,.int .i64 0] 28 (0,0)) (fO BK101) NB101_105.out (by simp));replace HO108:=aE (Kd.R_mono (Kd.R_keep (dR.apart (show dR w _ g105 t102 t119 t120 from cQ HI105) (bN HO108) (by decide)) hk (fun _ h=>h.2)) (fun _ h=>h.1));replace HB:=aE (hb);replace HI105:=aE (hi);(try clear hb);(try clear hb2);(try clear hk);(try clear hi);have hnb17:=NB101_105.out;have hnc17:=NB105_101.out;have hcz18_0:=aW BK101 0;have hcz18_1:=aW BK101 1;have hfz18_0:=aA BK101.out 0;have hfz18_1:=aA BK101.out 1))
 refine bodyPost_ret (mN (rs:=[.tmp 2,.tmp 3,.cell 4 28]) rfl (by simp) (.tmp (.tmp (.cell gb101 28 #[.int .i64 (wrap64 (t118-6)),.int .i64 (wrap64 (t121-6))] (0,0) _ rfl (jR BK101) Tryz.underlying28 rfl (by kernel_rfl) .nil)))) rfl ?_
 exact ⟨_,bP,by (with_reducible repeat (first|apply kD|apply kE|apply gU));exact Kd.R_mono (Kd.R_far (p:=⟨gb101,1,none⟩) (Kd.R_far (p:=⟨gb101,0,none⟩) (Kd.R_mono HO108.out (fun k_ hk=>(⟨hk,by first|exact hk.2|exact hk⟩:_∧k_≠gb101))) (fun _ hk=>hk.2) (.int .i64 (wrap64 (t118-6)))) (fun _ hk=>hk.2) (.int .i64 (wrap64 (t121-6)))) (fun _ hk=>trivial),gP HB (bD HI105.out)⟩
/-! ### spec_DrawIsGridInside: function 9 -/
def spec_DrawIsGridInside.f (k:Nat) (l0:List Int):Option ((List (cF))×Int×Int):=(spec_l23Case.f k l0).bind fun bt102=>(some (bt102.1,bt102.2.2.1,bt102.2.2.2))
set_option maxHeartbeats 8000000 in
set_option maxRecDepth 100000 in
theorem pI (k:Nat) (A0:Option Addr) (c0:Nat) (l0:List Int) (r1:List (cF)) (r2:Int) (r3:Int) (w:World) (hr0:Kd.C (Kd.int .u8) w A0 l0.length l0) (hc0:l0.length≤c0) (h:spec_DrawIsGridInside.f k l0=some (r1,r2,r3)) :
  Calls Tryz.prog 9 #[.slice A0 l0.length c0] w fun e w'=>∃ v0_:Value,e=.returned (.tuple #[v0_,.agg #[.int .i64 r2,.int .i64 r3]])∧Kd.R jW 28 w' w.heap.size (fun _=>True) v0_ r1∧Below w.heap.size w w':=by
 have hu28:=Tryz.underlying28
 have HR0:=aE hr0
 have HC0:=aE hc0
 clear hr0 hc0
 have HB:=aE (Below.refl w.heap.size w)
 unfold spec_DrawIsGridInside.f at h
 have H:=h
 clear h
 replace H:=eM H
 obtain ⟨⟨t102,t105,t106,t107⟩,A2,H⟩:=H
 try dsimp only at H
 simp only [Option.some.injEq,Prod.mk.injEq] at H
 obtain ⟨rfl,rfl,rfl⟩:=H
 go_enter Tryz.func9,Tryz.ntmps9
 try go_wp2_with (first|((with_reducible refine aN (N:=3) rfl ?_);refine bV (N:=3) #[.int .i64 0,.int .i64 0] 28 ?_;intro gb101 hg w3 hbox hb;have BK101:=aE (hbox);have GW101:=aE ((dX HB hg));have GE101:=aE ((dX HB hg));replace HB:=aE (aD (aX HB) hb);clear hb hbox hg)|((with_reducible refine aJ (f:=35) rfl ?_);refine aV (some 9) Tryz.func35 #[.slice A0 l0.length c0] ?_;(with_reducible refine (xY k _ _ l0 t102 t105 t106 t107 _ ?side1 ?side2 A2.out).mono ?_);(case side1=>exact kJ (Kd.C_below HR0.out HB.out));(case side2=>exact HC0.out);rintro e w4 ⟨v103,rfl,ho0,hb⟩;refine ⟨_,rfl,?_⟩;have HO104:=aE (Kd.R_lower (Kd.R_newB ho0 (g:=gb101) (o:=.cells #[.int .i64 0,.int .i64 0] 28 (0,0)) (fO BK101)) (aT (aX HB)));replace BK101:=aE (bB BK101 hb);replace HB:=aE (aD (aX HB) hb);(try clear hb);(try clear hk);(try clear ho0))|((with_reducible refine aN (N:=6) rfl ?_);refine bV (N:=6) #[.int .i64 0,.int .i64 0] 28 ?_;intro gb108 hg w5 hbox hb;replace HO104:=aE (Kd.R_below (Kd.R_elderB (bN HO104) gb108 (Nat.le_of_eq hg.symm)) hb);have BK108:=aE (hbox);have GW108:=aE ((dX HB hg));have GE108:=aE ((dX HB hg));replace HB:=aE (aD (aX HB) hb);have NB101_108:=aE ((iX BK101 hg));have NB108_101:=aE ((iY BK101 hg));replace BK101:=aE (bB BK101 hb);clear hb hbox hg;have hnb6:=NB108_101.out;have hnc6:=NB101_108.out;have hcz7_0:=aW BK108 0;have hcz7_1:=aW BK108 1;have hfz7_0:=aA BK108.out 0;have hfz7_1:=aA BK108.out 1))
 replace HO104:Aside0 (Kd.R jW 28 ((w5.setCell ⟨gb108,0,none⟩ (.int .i64 t106)).setCell ⟨gb108,1,none⟩ (.int .i64 t107)) w.heap.size (fun k_=>k_≠gb101∧k_≠gb108) v103 t102):=⟨by (with_reducible repeat (first|apply kD|apply kE|apply gU));exact Kd.R_mono (Kd.R_far (p:=⟨gb108,1,none⟩) (Kd.R_far (p:=⟨gb108,0,none⟩) (Kd.R_mono HO104.out (fun k_ hk=>(⟨hk,hk.2⟩:_∧k_≠gb108))) (fun _ hk=>hk.2) (.int .i64 t106)) (fun _ hk=>hk.2) (.int .i64 t107)) (fun _ hk=>⟨hk.1.1.2,hk.1.2⟩)⟩
 replace BK101:Aside0 (((w5.setCell ⟨gb108,0,none⟩ (.int .i64 t106)).setCell ⟨gb108,1,none⟩ (.int .i64 t107)).heap[gb101]? = some (.cells #[.int .i64 0,.int .i64 0] 28 (0,0))):=⟨jR BK101⟩
 replace BK108:Aside0 (((w5.setCell ⟨gb108,0,none⟩ (.int .i64 t106)).setCell ⟨gb108,1,none⟩ (.int .i64 t107)).heap[gb108]? = some (.cells #[.int .i64 t106,.int .i64 t107] 28 (0,0))):=⟨jR BK108⟩
 replace HB:Aside0 (Below w.heap.size w ((w5.setCell ⟨gb108,0,none⟩ (.int .i64 t106)).setCell ⟨gb108,1,none⟩ (.int .i64 t107))):=⟨aX HB⟩
 generalize ((w5.setCell ⟨gb108,0,none⟩ (.int .i64 t106)).setCell ⟨gb108,1,none⟩ (.int .i64 t107))=w8 at HO104 BK101 BK108 HB ⊢
 replace HO104:=aE (gU HO104.out)
 replace BK101:=aE (aI BK101.out)
 replace BK108:=aE (aI BK108.out)
 replace HB:=aE (jK HB.out)
 refine dA (n:=4) (S:=fun w'=>w'.cell? ⟨gb108,0,none⟩=some (.int .i64 t106)∧w'.cell? ⟨gb108,1,none⟩=some (.int .i64 t107)) (ds:=[]) (bm 4 0) (by kernel_rfl) rfl rfl ⟨aW BK108 0,aW BK108 1⟩ (fun hHeld=>?_)
 generalize w8.drew=w9 at HO104 BK101 BK108 HB hHeld ⊢
 refine uX (i:=0) (N:=some 13) (v:=?_) (a':=?_) (bm 4 1) rfl rfl (by kernel_rfl) (fun _ _ _ h=>h) (Or.inl ⟨by rfl,?_⟩) ?_ ?_
 rotate_left
 ·intro w'
  go_simp
  with_reducible rfl
 rotate_left
 ·simp only [Act.put,List.setIfInBounds_toArray,List.set_cons_zero,List.set_cons_succ,cC,dW]
  rfl
 refine uX (i:=2) (N:=some 2) (v:=?_) (a':=?_) (bm 4 5) rfl rfl (by kernel_rfl) (fun _ _ _ h=>h) (Or.inl ⟨by rfl,?_⟩) ?_ ?_
 rotate_left
 ·intro w'
  go_simp
  with_reducible rfl
 rotate_left
 ·simp only [Act.put,List.setIfInBounds_toArray,List.set_cons_zero,List.set_cons_succ,cC,dW]
  rfl
 refine qW (i:=1) (N:=some 14) (v:=?_) (a':=?_) (bm 4 7) rfl rfl (by kernel_rfl) (fun _ _ _ h=>h) (Or.inl ⟨by rfl,?_⟩) hHeld ?_ ?_
 rotate_left
 ·rintro w' ⟨s0,s1⟩
  go_simp
  with_reducible rfl
 rotate_left
 ·simp only [Act.put,List.setIfInBounds_toArray,List.set_cons_zero,List.set_cons_succ,cC,dW]
  rfl
 refine dQ (i:=3) (N:=none) (bm 4 15) rfl rfl (by kernel_rfl) (by decide) (fun K hK=>?_)
 have hs10:w9.cell? ⟨gb101,0,none⟩=some (.int .i64 0):=aW BK101 0
 have hfs10:=aA BK101.out 0
 have hns10_1:=NB108_101.out
 have hms10_1:=NB101_108.out
 have hs11:w9.cell? ⟨gb101,1,none⟩=some (.int .i64 0):=aW BK101 1
 have hfs11:=aA BK101.out 1
 have hns11_1:=NB108_101.out
 have hms11_1:=NB101_108.out
 refine kY (w1:=?_) (by rfl) rfl ?_ ?_
 rotate_left
 ·go_simp
  rfl
 refine hK.out _ _ ⟨(lT NB108_101 ((lT NB108_101 hHeld.1))),(lT NB108_101 ((lT NB108_101 hHeld.2)))⟩ (fun hHeld=>?_)
 clear hK K
 refine eN (by kernel_rfl) ?_
 try go_wp2
 refine bodyPost_ret (LU rfl _ _ gb101 28 #[.int .i64 t106,.int .i64 t107] (0,0) _ rfl (jR BK101) Tryz.underlying28 rfl (by kernel_rfl)) rfl ?_
 exact ⟨_,bP,by (with_reducible repeat (first|apply kD|apply kE|apply gU));exact Kd.R_mono (Kd.R_far (p:=⟨gb101,1,none⟩) (Kd.R_far (p:=⟨gb101,0,none⟩) (Kd.R_mono HO104.out (fun k_ hk=>(⟨hk,hk.1⟩:_∧k_≠gb101))) (fun _ hk=>hk.2) (.int .i64 t106)) (fun _ hk=>hk.2) (.int .i64 t107)) (fun _ hk=>trivial),aX HB⟩
/-! ### impl_triangles: function 36 -/
def fC:Nat→List (cF)→List Int→List (pO)→Int→Int→Option (List Int)
 | 0,_,_,_,_,_=>none
 | k+1,x0,x3,x9,x10,x11=>if x11<x10 then (if 0≤x11 then (if x11<(x9.length:Int) then (if 0≤((aG x9 x11).f0) then (if ((aG x9 x11).f0)<(x0.length:Int) then (if 0≤((aG x9 x11).f1) then (if ((aG x9 x11).f1)<(x0.length:Int) then (if 0≤((aG x9 x11).f2) then (if ((aG x9 x11).f2)<(x0.length:Int) then ((impl_area.f ((aC x0 ((aG x9 x11).f0)).f0) ((aC x0 ((aG x9 x11).f0)).f1) ((aC x0 ((aG x9 x11).f1)).f0) ((aC x0 ((aG x9 x11).f1)).f1) ((aC x0 ((aG x9 x11).f2)).f0) ((aC x0 ((aG x9 x11).f2)).f1)).bind fun t109=>(if x3.length<17592186044416 then (fC k x0 (x3++[mx t109 (wrap64 (-t109))]) x9 x10 (wrap64 (x11+1))) else (none))) else (none)) else (none)) else (none)) else (none)) else (none)) else (none)) else (none)) else (none)) else (some x3)
def impl_triangles.f (k:Nat) (l0:List (cF)):Option (List Int):=(impl_triplesOf.f k (l0.length:Int)).bind fun t101=>(fC k l0 ([]:List Int) t101 (t101.length:Int) 0)
def rE:Bool×List (List Nat×List Nat):=(true,[([],[]),([],[]),([1],[1]),([0,2],[0,2]),([3],[3]),([],[]),([],[]),([6],[6]),([5,7],[5,7]),([8],[8]),([],[]),([],[]),([11],[11]),([10,12],[10,12]),([13],[13]),([4,9,14],[4,9,14]),([15,15,0,1,2,3,4,5,6,7,8,9,10,11,12,13,14,15],[15])])
def zB:List Nat:=[0,0,2,7,15,0,0,64,224,480,0,0,2048,7168,15360,32767,65535]
theorem wQ:iQ .any (iS Tryz.f36 5)=rE:=by kernel_rfl
theorem vE:dM rE.2 zB=true:=by kernel_rfl
set_option maxHeartbeats 8000000 in
set_option maxRecDepth 100000 in
theorem nW (k:Nat) (A0:Option Addr) (c0:Nat) (l0:List (cF)) (r:List Int) (w:World) (hr0:Kd.C jW w A0 l0.length l0) (hc0:l0.length≤c0) (h:impl_triangles.f k l0=some r) :
  Calls Tryz.prog 36 #[.slice A0 l0.length c0] w fun e w'=>∃ v0_:Value,e=.returned (v0_)∧Kd.R (Kd.int .i64) 3 w' w.heap.size (fun _=>True) v0_ r∧Below w.heap.size w w':=by
 have hu56:=Tryz.underlying56
 have hu28:=Tryz.underlying28
 have HR0:=aE hr0
 have HC0:=aE hc0
 clear hr0 hc0
 have HB:=aE (Below.refl w.heap.size w)
 unfold impl_triangles.f at h
 have H:=h
 clear h
 replace H:=eM H
 obtain ⟨t101,A2,H⟩:=H
 have H':=aE H
 clear H
 go_enter Tryz.func36,Tryz.ntmps36
 go_wp2_with (first|((with_reducible refine aJ (f:=38) rfl ?_);refine aV (some 9) Tryz.func38 #[.int .i64 (l0.length:Int)] ?_;(with_reducible refine (eI k (l0.length:Int) t101 _ A2.out).mono ?_);rintro e w3 ⟨v102,rfl,ho0,hb⟩;refine ⟨_,rfl,?_⟩;have HO103:=aE (Kd.R_lower ho0 (aT (aX HB)));replace HB:=aE (aD (aX HB) hb);(try clear hb);(try clear hk);(try clear ho0);obtain ⟨Ao4,co4,eo4⟩:=Kd.R_slice HO103.out;subst eo4))
 go_loopg [3,11] k (fun kq v3 v11 w'=>∃ (x3_1:List Int) (x11_1:Int),v11=.int .i64 x11_1∧Aside0 (fC kq l0 x3_1 t101 (t101.length:Int) x11_1=some r)∧Aside0 (kq≤k)∧Aside0 (Kd.R (Kd.int .i64) 3 w' w.heap.size (fun _=>True) v3 x3_1)∧Aside0 (Kd.R FQ 56 w' w.heap.size (fun _=>True) (.slice Ao4 t101.length co4) t101)∧Aside0 (Below w.heap.size w w'))
 case atStart=>exact ⟨(([]:List Int)),(0),aH,H',⟨Nat.le_refl _⟩,⟨by first|exact Kd.R_nil _ _ _ _ _|exact Kd.N_nil _ _ _ _ _|exact Kd.V_nil _ _ _ _ _|exact Kd.Q_nil _ _ _ _ _|exact Kd.S_nil _ _ _ _ _⟩,⟨bN HO103⟩,⟨aX HB⟩⟩
 case round =>
  clear H'
  obtain ⟨x3_1,x11_1,rfl,HA,HK1,HO_3,HO_9,HB⟩:=hrel
  cases gk with
  | zero=>exact absurd HA.out (by simp [fC])
  | succ k1 =>
   have H:=HA.out
   clear HA
   simp only [fC] at H
   rcases eV H with ⟨c5b0,H⟩|⟨c5b0,H⟩
   ·obtain ⟨c6b0,H⟩:=cV H
    obtain ⟨c7b0,H⟩:=cV H
    obtain ⟨c8b0,H⟩:=cV H
    obtain ⟨c9b0,H⟩:=cV H
    obtain ⟨c10b0,H⟩:=cV H
    obtain ⟨c11b0,H⟩:=cV H
    obtain ⟨c12b0,H⟩:=cV H
    obtain ⟨c13b0,H⟩:=cV H
    replace H:=eM H
    obtain ⟨t109,A14,H⟩:=H
    obtain ⟨ji15,hji15⟩:∃ j_:Int,(mx t109 (wrap64 (-t109)))=j_:=⟨_,rfl⟩
    replace H:(if x3_1.length<17592186044416 then (fC k1 l0 (x3_1++[ji15]) t101 (t101.length:Int) (wrap64 (x11_1+1))) else (none))=some r:=by first|(rw [hji15] at H;exact H)|(simp only [hji15] at H ⊢;exact H)
    (try rw [hji15] at A14)
    have hji15_:(if t109<(wrap64 (-t109)) then (wrap64 (-t109)) else t109)=ji15:=hji15
    obtain ⟨c16,H⟩:=gQ H
    have LMc16:=aE c16
    clear c16
    obtain ⟨y110,hy110⟩:∃ y_:List Int,y_=(x3_1++[ji15]):=⟨_,rfl⟩
    first|(with_reducible replace H:=oO hy110 H)|(with_reducible replace H:=oP hy110 H)|rw [← hy110] at H
    have Ny110:=aE hy110
    clear hy110
    have H':=aE H
    clear H
    obtain ⟨p104,q104,ad104,e104,hx104_0,hx104_1,hx104_2⟩:=jP (rR (Kd.R_reads' HO_9.out).2.2 x11_1)
    cases e104
    try go_wp2_with (first|((with_reducible refine aN (N:=5) rfl ?_);refine bV (N:=5) #[.int .i64 0,.int .i64 0,.int .i64 0] 56 ?_;intro gb105 hg w17 hbox hb;replace HO_3:=aE (Kd.R_below (bN HO_3) hb);replace HO_9:=aE (Kd.R_below (Kd.R_elderB (bN HO_9) gb105 (Nat.le_of_eq hg.symm)) hb);have BK105:=aE (hbox);have GW105:=aE ((dX HB hg));have GE105:=aE ((dX HB hg));replace HB:=aE (aD (aX HB) hb);clear hb hbox hg;have hcz18_0:=aW BK105 0;have hcz18_1:=aW BK105 1;have hcz18_2:=aW BK105 2;have hfz18_0:=aA BK105.out 0;have hfz18_1:=aA BK105.out 1;have hfz18_2:=aA BK105.out 2))
    replace HO_3:Aside0 (Kd.R (Kd.int .i64) 3 (((w17.setCell ⟨gb105,0,none⟩ (.int .i64 ((aG t101 x11_1).f0))).setCell ⟨gb105,1,none⟩ (.int .i64 ((aG t101 x11_1).f1))).setCell ⟨gb105,2,none⟩ (.int .i64 ((aG t101 x11_1).f2))) w.heap.size (fun _=>True) u3 x3_1):=⟨by (with_reducible repeat (first|apply kD|apply kE|apply gU));exact Kd.R_mono (Kd.R_far (p:=⟨gb105,2,none⟩) (Kd.R_far (p:=⟨gb105,1,none⟩) (Kd.R_far (p:=⟨gb105,0,none⟩) (Kd.R_types HO_3.out BK105.out (by decide)) (fun _ hk=>hk.2) (.int .i64 ((aG t101 x11_1).f0))) (fun _ hk=>hk.2) (.int .i64 ((aG t101 x11_1).f1))) (fun _ hk=>hk.2) (.int .i64 ((aG t101 x11_1).f2))) (fun _ hk=>trivial)⟩
    replace HO_9:Aside0 (Kd.R FQ 56 (((w17.setCell ⟨gb105,0,none⟩ (.int .i64 ((aG t101 x11_1).f0))).setCell ⟨gb105,1,none⟩ (.int .i64 ((aG t101 x11_1).f1))).setCell ⟨gb105,2,none⟩ (.int .i64 ((aG t101 x11_1).f2))) w.heap.size (fun k_=>k_≠gb105) (.slice (some ad104) t101.length co4) t101):=⟨by (with_reducible repeat (first|apply kD|apply kE|apply gU));exact Kd.R_mono (Kd.R_far (p:=⟨gb105,2,none⟩) (Kd.R_far (p:=⟨gb105,1,none⟩) (Kd.R_far (p:=⟨gb105,0,none⟩) (Kd.R_mono HO_9.out (fun k_ hk=>(⟨hk,hk.2⟩:_∧k_≠gb105))) (fun _ hk=>hk.2) (.int .i64 ((aG t101 x11_1).f0))) (fun _ hk=>hk.2) (.int .i64 ((aG t101 x11_1).f1))) (fun _ hk=>hk.2) (.int .i64 ((aG t101 x11_1).f2))) (fun _ hk=>hk.1.2)⟩
    replace BK105:Aside0 ((((w17.setCell ⟨gb105,0,none⟩ (.int .i64 ((aG t101 x11_1).f0))).setCell ⟨gb105,1,none⟩ (.int .i64 ((aG t101 x11_1).f1))).setCell ⟨gb105,2,none⟩ (.int .i64 ((aG t101 x11_1).f2))).heap[gb105]? = some (.cells #[.int .i64 ((aG t101 x11_1).f0),.int .i64 ((aG t101 x11_1).f1),.int .i64 ((aG t101 x11_1).f2)] 56 (0,0))):=⟨jR BK105⟩
    replace HB:Aside0 (Below w.heap.size w (((w17.setCell ⟨gb105,0,none⟩ (.int .i64 ((aG t101 x11_1).f0))).setCell ⟨gb105,1,none⟩ (.int .i64 ((aG t101 x11_1).f1))).setCell ⟨gb105,2,none⟩ (.int .i64 ((aG t101 x11_1).f2)))):=⟨aX HB⟩
    generalize (((w17.setCell ⟨gb105,0,none⟩ (.int .i64 ((aG t101 x11_1).f0))).setCell ⟨gb105,1,none⟩ (.int .i64 ((aG t101 x11_1).f1))).setCell ⟨gb105,2,none⟩ (.int .i64 ((aG t101 x11_1).f2)))=w19 at HO_3 HO_9 BK105 HB ⊢
    replace HO_3:=aE (gU HO_3.out)
    replace HO_9:=aE (gU HO_9.out)
    replace BK105:=aE (aI BK105.out)
    replace HB:=aE (jK HB.out)
    have p106:0≤(((aG t101 x11_1).f0):Int):=bI
    have q106:((aG t101 x11_1).f0)<(l0.length:Int):=bI
    obtain ⟨ad106,e106,hx106_0,hx106_1⟩:=bW HR0.out ((aG t101 x11_1).f0) p106 q106
    have hw106_1:=hx106_1
    have hw106_0:=hx106_0
    cases e106
    replace hx106_0:=aY HB hx106_0
    replace hx106_1:=aY HB hx106_1
    replace p106:=eq_true p106
    replace q106:=eq_true q106
    have p107:0≤(((aG t101 x11_1).f1):Int):=bI
    have q107:((aG t101 x11_1).f1)<(l0.length:Int):=bI
    obtain ⟨ad107,e107,hx107_0,hx107_1⟩:=bW HR0.out ((aG t101 x11_1).f1) p107 q107
    have hw107_1:=hx107_1
    have hw107_0:=hx107_0
    obtain rfl:ad106=ad107:=(by injection e107)
    replace hx107_0:=aY HB hx107_0
    replace hx107_1:=aY HB hx107_1
    replace p107:=eq_true p107
    replace q107:=eq_true q107
    have p108:0≤(((aG t101 x11_1).f2):Int):=bI
    have q108:((aG t101 x11_1).f2)<(l0.length:Int):=bI
    obtain ⟨ad108,e108,hx108_0,hx108_1⟩:=bW HR0.out ((aG t101 x11_1).f2) p108 q108
    have hw108_1:=hx108_1
    have hw108_0:=hx108_0
    obtain rfl:ad106=ad108:=(by injection e108)
    replace hx108_0:=aY HB hx108_0
    replace hx108_1:=aY HB hx108_1
    replace p108:=eq_true p108
    replace q108:=eq_true q108
    refine dA (n:=17) (S:=fun w'=>w'.cell? ⟨gb105,0,none⟩=some (.int .i64 ((aG t101 x11_1).f0))∧w'.cell? ⟨gb105,1,none⟩=some (.int .i64 ((aG t101 x11_1).f1))∧w'.cell? ⟨gb105,2,none⟩=some (.int .i64 ((aG t101 x11_1).f2))∧w'.cell? (ad106.add ((((aG t101 x11_1).f0)).toNat*2))=some (.int .i64 ((aC l0 ((aG t101 x11_1).f0)).f0))∧w'.cell? ⟨(ad106.add ((((aG t101 x11_1).f0)).toNat*2)).block,(ad106.add ((((aG t101 x11_1).f0)).toNat*2)).off+1,none⟩=some (.int .i64 ((aC l0 ((aG t101 x11_1).f0)).f1))∧w'.cell? (ad106.add ((((aG t101 x11_1).f1)).toNat*2))=some (.int .i64 ((aC l0 ((aG t101 x11_1).f1)).f0))∧w'.cell? ⟨(ad106.add ((((aG t101 x11_1).f1)).toNat*2)).block,(ad106.add ((((aG t101 x11_1).f1)).toNat*2)).off+1,none⟩=some (.int .i64 ((aC l0 ((aG t101 x11_1).f1)).f1))∧w'.cell? (ad106.add ((((aG t101 x11_1).f2)).toNat*2))=some (.int .i64 ((aC l0 ((aG t101 x11_1).f2)).f0))∧w'.cell? ⟨(ad106.add ((((aG t101 x11_1).f2)).toNat*2)).block,(ad106.add ((((aG t101 x11_1).f2)).toNat*2)).off+1,none⟩=some (.int .i64 ((aC l0 ((aG t101 x11_1).f2)).f1))) (ds:=[]) (bm 17 0) (by kernel_rfl) rfl rfl ⟨aW BK105 0,aW BK105 1,aW BK105 2,(aY HB hw106_0),(aY HB hw106_1),(aY HB hw107_0),(aY HB hw107_1),(aY HB hw108_0),(aY HB hw108_1)⟩ (fun hHeld=>?_);refine bO wQ vE (fun HT_ HW_=>?_)
    generalize w19.drew=w20 at HO_3 HO_9 BK105 HB hx106_0 hx106_1 hx107_0 hx107_1 hx108_0 hx108_1 hHeld ⊢
    refine bU ((0,0,15,1)::(0,1,16,3)::(0,5,20,35)::(0,6,21,99)::(0,10,25,1123)::(0,11,26,3171)::(2,2,17,3175)::(0,3,18,3183)::(2,4,19,3199)::(2,7,22,3327)::(0,8,23,3583)::(2,9,24,4095)::(2,12,27,8191)::(0,13,28,16383)::(2,14,29,32767)::[]) ?_
    iterate 15 (first|refine jT HT_ ?_|refine pZ HT_ HW_ hHeld ?_)
    refine aU ?_
    refine dQ (i:=15) (N:=some 30) (bm 17 65535) rfl rfl (bJ HT_.out (by kernel_rfl)) (by decide) (fun K hK=>?_)
    refine cN Tryz.func66 #[.agg #[.int .i64 ((aC l0 ((aG t101 x11_1).f0)).f0),.int .i64 ((aC l0 ((aG t101 x11_1).f0)).f1)],.agg #[.int .i64 ((aC l0 ((aG t101 x11_1).f1)).f0),.int .i64 ((aC l0 ((aG t101 x11_1).f1)).f1)],.agg #[.int .i64 ((aC l0 ((aG t101 x11_1).f2)).f0),.int .i64 ((aC l0 ((aG t101 x11_1).f2)).f1)]] ?_
    with_reducible refine (tZ ((aC l0 ((aG t101 x11_1).f0)).f0) ((aC l0 ((aG t101 x11_1).f0)).f1) ((aC l0 ((aG t101 x11_1).f1)).f0) ((aC l0 ((aG t101 x11_1).f1)).f1) ((aC l0 ((aG t101 x11_1).f2)).f0) ((aC l0 ((aG t101 x11_1).f2)).f1) t109 _ A14.out).mono ?_
    rintro e w21 ⟨rfl,hb⟩
    refine ⟨_,rfl,?_⟩
    replace HO_3:=aE (Kd.R_below (bN HO_3) hb)
    replace HO_9:=aE (Kd.R_below (bN HO_9) hb)
    replace BK105:=aE (bB BK105 hb)
    replace HB:=aE (aD (aX HB) hb)
    (try clear hb)
    (try clear hk)
    refine hK.out _ _ ⟨aW BK105 0,aW BK105 1,aW BK105 2,(aY HB hw106_0),(aY HB hw106_1),(aY HB hw107_0),(aY HB hw107_1),(aY HB hw108_0),(aY HB hw108_1)⟩ (fun hHeld=>?_)
    clear hK K
    refine gA ?_
    refine bU ((0,16,6,131071)::[]) ?_
    iterate 1 (first|refine jT HT_ ?_)
    refine aU ?_
    refine eN (cK HT_.out (by kernel_rfl)) ?_
    try go_wp2_with (first|((with_reducible refine cT (b:=.append) (xs:=#[.tmp 31,.tmp 36]) rfl ?_);at_builtin;refine Kd.R_append (Kd.int .i64) (w0:=w) w.heap.size rfl (.tmp 31) (.tmp 36) 33 3 (.int .i64 0) 8 rfl Tryz.underlying33 mO rfl (by decide) (by omega) u3 x3_1 ji15 [.int .i64 ji15] (fun _=>True) (fun _=>False) rfl rfl ?aP (fun _ hk=>hk.elim) ?aF ?aO ?aB ?aS ?aL ?_;(case aP=>exact rfl);(case aB=>exact (aX HB));(case aF=>exact (fun _ _=>trivial));(case aO=>exact (bN HO_3));(case aS=>exact (aT (aX HB)));(case aL=>have:=LMc16.out;omega);intro v111 w22 ho hb hg hat;rw [← Ny110.out] at ho;replace HO_9:=aE (Kd.R_over' (bN HO_9) (Kd.R_typed (bN HO_3)) (by decide) hg);replace BK105:=aE (kL (g:=gb105) (o:=.cells #[.int .i64 ((aG t101 x11_1).f0),.int .i64 ((aG t101 x11_1).f1),.int .i64 ((aG t101 x11_1).f2)] 56 (0,0)) (fO BK105) hg (Kd.R_ne HO_3.out BK105.out (by decide)));replace HB:=aE (hb);have HO112:=aE (ho);clear HO_3;clear ho hb hg hat))
    go_roundg k1
    case measure=>have:=HK1.out;omega
    case rel=>exact ⟨(y110),(wrap64 (x11_1+1)),aH,H',⟨by have:=HK1.out;omega⟩,⟨bN HO112⟩,⟨by (with_reducible repeat (first|apply kD|apply kE|apply gU));exact Kd.R_mono HO_9.out (fun _ hk=>trivial)⟩,⟨aX HB⟩⟩
   ·obtain rfl:=Option.some.inj H
    go_wp2
    go_ret
    exact ⟨_,bP,bN HO_3,aX HB⟩
end Go.Proofs.YteaagaekdkolnaaGreat.P

namespace Go.Proofs
open Go.Shelf
def AU:Go.Shelf.Ren:=⟨fun|189=>37|125=>68|257=>67|128=>96|129=>97|294=>87|295=>88|296=>89|297=>90|298=>91|299=>92|216=>93|300=>94|301=>95|328=>107|329=>108|330=>109|331=>110|332=>111|215=>112|343=>117|n=>n,fun|28=>33|3=>3|46=>73|0=>0|51=>108|53=>110|4=>4|183=>101|182=>100|131=>105|5=>5|9=>9|218=>116|222=>120|228=>127|229=>114|n=>n,fun|n=>n⟩
theorem zC:Go.Proofs.Lays.n189 Tryz.prog AU:={
 mixed:=by kernel_rfl
 f125:=Tryz.func68.trans (congrArg some (by kernel_rfl))
 f128:=Tryz.func96.trans (congrArg some (by kernel_rfl))
 f129:=Tryz.func97.trans (congrArg some (by kernel_rfl))
 f189:=Tryz.func37.trans (congrArg some (by kernel_rfl))
 f215:=Tryz.func112.trans (congrArg some (by kernel_rfl))
 f216:=Tryz.func93.trans (congrArg some (by kernel_rfl))
 f257:=Tryz.func67.trans (congrArg some (by kernel_rfl))
 f294:=Tryz.func87.trans (congrArg some (by kernel_rfl))
 f295:=Tryz.func88.trans (congrArg some (by kernel_rfl))
 f296:=Tryz.func89.trans (congrArg some (by kernel_rfl))
 f297:=Tryz.func90.trans (congrArg some (by kernel_rfl))
 f298:=Tryz.func91.trans (congrArg some (by kernel_rfl))
 f299:=Tryz.func92.trans (congrArg some (by kernel_rfl))
 f300:=Tryz.func94.trans (congrArg some (by kernel_rfl))
 f301:=Tryz.func95.trans (congrArg some (by kernel_rfl))
 f328:=Tryz.func107.trans (congrArg some (by kernel_rfl))
 f329:=Tryz.func108.trans (congrArg some (by kernel_rfl))
 f330:=Tryz.func109.trans (congrArg some (by kernel_rfl))
 f331:=Tryz.func110.trans (congrArg some (by kernel_rfl))
 f332:=Tryz.func111.trans (congrArg some (by kernel_rfl))
 f343:=Tryz.func117.trans (congrArg some (by kernel_rfl))
 t0:=Tryz.underlying0
 a0:=Tryz.isAgg0
 z0:=Tryz.sizeOf0
 v0:=Tryz.zeroValue0
 t3:=Tryz.underlying3
 a3:=Tryz.isAgg3
 z3:=Tryz.sizeOf3
 v3:=Tryz.zeroValue3
 t4:=Tryz.underlying4
 a4:=Tryz.isAgg4
 z4:=Tryz.sizeOf4
 v4:=Tryz.zeroValue4
 t5:=Tryz.underlying5
 a5:=Tryz.isAgg5
 z5:=Tryz.sizeOf5
 v5:=Tryz.zeroValue5
 t9:=Tryz.underlying9
 a9:=Tryz.isAgg9
 z9:=Tryz.sizeOf9
 v9:=Tryz.zeroValue9
 t28:=Tryz.underlying33
 a28:=Tryz.isAgg33
 z28:=Tryz.sizeOf33
 v28:=Tryz.zeroValue33
 t46:=Tryz.underlying73
 a46:=Tryz.isAgg73
 z46:=Tryz.sizeOf73
 v46:=Tryz.zeroValue73
 t51:=Tryz.underlying108
 a51:=Tryz.isAgg108
 z51:=Tryz.sizeOf108
 v51:=Tryz.zeroValue108
 t53:=Tryz.underlying110
 a53:=Tryz.isAgg110
 z53:=Tryz.sizeOf110
 v53:=Tryz.zeroValue110
 t131:=Tryz.underlying105
 a131:=Tryz.isAgg105
 z131:=Tryz.sizeOf105
 v131:=Tryz.zeroValue105
 t182:=Tryz.underlying100
 a182:=Tryz.isAgg100
 z182:=Tryz.sizeOf100
 v182:=Tryz.zeroValue100
 t183:=Tryz.underlying101
 a183:=Tryz.isAgg101
 z183:=Tryz.sizeOf101
 v183:=Tryz.zeroValue101
 t218:=Tryz.underlying116
 a218:=Tryz.isAgg116
 z218:=Tryz.sizeOf116
 v218:=Tryz.zeroValue116
 t222:=Tryz.underlying120
 a222:=Tryz.isAgg120
 z222:=Tryz.sizeOf120
 v222:=Tryz.zeroValue120
 t228:=Tryz.underlying127
 a228:=Tryz.isAgg127
 z228:=Tryz.sizeOf127
 v228:=Tryz.zeroValue127
 t229:=Tryz.underlying114
 a229:=Tryz.isAgg114
 z229:=Tryz.sizeOf114
 v229:=Tryz.zeroValue114 }
open Go.Sort Go.RowKit in
theorem Tryz.slices_Sort_int (blk off cap:Nat) (zs:List Int) (w:World) (hH:Holds (Value.int .i64) w blk off zs.toArray) (hblk:blk<w.heap.size) (hsz:zs.length<4611686018427387904) :
  Calls Tryz.prog 37 #[.slice (some ⟨blk,off,none⟩) zs.length cap] w fun e w' =>
   e=.returned (.tuple #[])∧∃ n os,w'=grow (putRow (Value.int .i64) (Sort.ahead w n) blk off (zs.mergeSort fun x y=>decide (x≤y)).toArray) os:=Any.slices_Sort_int zC blk off cap zs w hH hblk hsz
open Go.RowKit Go.Sort in
theorem Tryz.slices_Sort_int_none (p:Option Addr) (cap:Nat) (w:World) :
  Calls Tryz.prog 37 #[.slice p 0 cap] w fun e w'=>e=.returned (.tuple #[])∧w'=w:=Any.slices_Sort_int_none zC p cap w
end Go.Proofs

namespace Go.Proofs.YteaagaekdkolnaaGreat.P
open Go.RowKit Go.Proofs.YteaagaekdkolnaaGreatW.PrintWords Go.Proofs.YteaagaekdkolnaaGreatW.PrintLast Go.Proofs.YteaagaekdkolnaaGreatW.PrintMore
attribute [local go_sem] max2_int min2_int max_two min_two max_three min_three max_four min_four
set_option linter.unusedVariables false
set_option linter.unusedSimpArgs false
/-! ### slices_Sort_int_int: function 37 -/
def slices_Sort_int_int.f (l0:List Int):Option (List Int):=if l0.length<4611686018427387904 then some (l0.mergeSort fun x y=>decide (x≤y)) else none
theorem IF (d:List Int) (cur:Array Value) (hc:d.length≤cur.size):(Go.Sort.putCells (Value.int .i64) 0 d.toArray cur).size=cur.size∧(Go.Sort.putCells (Value.int .i64) 0 d.toArray cur).toList.take d.length=OG .i64 d:=by
 constructor
 ·simp [Go.Sort.putCells]
 ·apply List.ext_getElem?
  intro j
  rw [List.getElem?_take]
  by_cases hj:j<d.length
  ·rw [if_pos hj,Array.getElem?_toList,Go.Sort.putCells,Array.getElem?_mapIdx,Array.getElem?_eq_getElem (by omega),Option.map_some,if_pos ⟨Nat.zero_le _,by simpa using hj⟩]
   simp [OG,List.getElem?_eq_getElem hj,hj]
  ·rw [if_neg hj,List.getElem?_eq_none (by simp [OG];omega)]
theorem JH (w:World) (m g:Nat) (d:Array Int) (os:Array Obj) (i:Nat) (hi:i<w.heap.size) :
  (Go.Sort.grow (Go.Sort.putRow (Value.int .i64) (Go.Sort.ahead w m) g 0 d) os).heap[i]? = if g=i then (w.heap[i]?).map (Go.Sort.onCells (Go.Sort.putCells (Value.int .i64) 0 d)) else w.heap[i]?:=by
 rw [Go.Sort.heap_grow_old _ _ (by simpa [Go.Sort.putRow,Go.Sort.mapBlock,Go.Sort.ahead] using hi)]
 simp [Go.Sort.putRow,Go.Sort.mapBlock,Go.Sort.ahead,Array.getElem?_modify]
theorem qU (P0_:Nat→Prop) (u9000_:Value) (l0:List Int) (r:List Int) (w0 w:World) (hB:Below w0.heap.size w0 w) (ho0:Kd.R (Kd.int .i64) 3 w w0.heap.size P0_ u9000_ l0) (h:slices_Sort_int_int.f l0=some r) :
  Calls Tryz.prog 37 #[u9000_] w fun e w'=>e=.returned (.tuple #[])∧Kd.R (Kd.int .i64) 3 w' w0.heap.size (fun k_=>(P0_ k_∨w.heap.size≤k_)) u9000_ r∧Below w0.heap.size w0 w'∧lY w w' (fun k_=>P0_ k_):=by
 simp only [slices_Sort_int_int.f] at h
 by_cases hbig:l0.length<4611686018427387904
 case neg=>rw [if_neg hbig] at h;cases h
 rw [if_pos hbig] at h
 obtain rfl:(l0.mergeSort fun x y=>decide (x≤y))=r:=Option.some.inj h
 have hown:=Kd.own_of_R (enc:=Value.int .i64) (h1:=fun _=>rfl) ho0
 have hok:=ho0.1
 have hl2:(l0.mergeSort fun x y=>decide (x≤y)).length=l0.length:=List.length_mergeSort _
 rcases hown with ⟨hlen,⟨rfl,hn⟩|⟨g,cap,cur,rfl,hgb,hh,hnc,hcm,hcs,htk⟩⟩
 ·obtain rfl:=List.eq_nil_of_length_eq_zero hn
  refine (Tryz.slices_Sort_int_none none 0 w).mono ?_
  rintro e w' ⟨rfl,rfl⟩
  exact ⟨rfl,by simpa using Kd.R_nil _ _ _ _ _,hB,lY.refl _ _⟩
 ·have hlt:g<w.heap.size:=gB hh
  have hcells:∀ j (hj:j<l0.length),cur[j]? = some (.int .i64 l0[j]):=by
   intro j hj
   have h1:(cur.toList.take (l0.length*1))[j]? = (pW (Value.int .i64) l0)[j]?:=by rw [htk]
   rw [Nat.mul_one,List.getElem?_take,if_pos hj,Array.getElem?_toList] at h1
   rw [h1]
   simp [pW,List.getElem?_eq_getElem hj]
  have hH:Go.Sort.Holds (Value.int .i64) w g 0 l0.toArray:=by
   intro j hj
   have hj':j<l0.length:=by simpa using hj
   refine ⟨?_,aA hh _⟩
   rw [Nat.zero_add,bK hh j,hcells j hj']
   simp [hj']
  refine (Tryz.slices_Sort_int g 0 cap l0 w hH hlt hbig).mono ?_
  rintro e w' ⟨rfl,m,os,rfl⟩
  have hsz:w.heap.size≤(Go.Sort.grow (Go.Sort.putRow (Value.int .i64) (Go.Sort.ahead w m) g 0 (l0.mergeSort fun x y=>decide (x≤y)).toArray) os).heap.size:=by
   simp [Go.Sort.putRow,Go.Sort.mapBlock,Go.Sort.ahead]
  have hblk:=JH w m g (l0.mergeSort fun x y=>decide (x≤y)).toArray os
  generalize hw':Go.Sort.grow (Go.Sort.putRow (Value.int .i64) (Go.Sort.ahead w m) g 0 (l0.mergeSort fun x y=>decide (x≤y)).toArray) os=w' at hsz hblk
  have hg':w'.heap[g]? = some (.cells (Go.Sort.putCells (Value.int .i64) 0 (l0.mergeSort fun x y=>decide (x≤y)).toArray cur) 3 (0,0)):=by
   rw [hblk g hlt,if_pos rfl,hh];rfl
  have hs:=IF (l0.mergeSort fun x y=>decide (x≤y)) cur (by rw [hl2,hcs];omega)
  have hB2:Below w0.heap.size w w':=by
   subst hw'
   exact ⟨rfl,rfl,rfl,hsz,fun i hi=>by rw [hblk i (Nat.lt_of_lt_of_le hi hB.size),if_neg (by omega)]⟩
  refine ⟨rfl,?_,hB.trans hB2,⟨hsz,fun i hi hn=>by rw [hblk i hi,if_neg (fun he=>hn (by rw [← he];exact hok g rfl))]⟩⟩
  refine Kd.R_of_own (enc:=Value.int .i64) (h1:=fun _=>rfl) ?_ (fun k hk=>.inl (hok k hk))
  refine ⟨by simp [pW],.inr ⟨g,cap,_,by rw [hl2],hgb,hg',by rw [hl2];exact hnc,hcm,by rw [hs.1];exact hcs,?_⟩⟩
  rw [Nat.mul_one]
  exact hs.2
/-! ### impl_TriangleRow: function 10 -/
def impl_TriangleRow.f (k:Nat) (l0:List (cF)):Option (List Int):=(impl_ArePoints.f k l0).bind fun t101=>(if t101=true then ((impl_triangles.f k l0).bind fun t102=>((slices_Sort_int_int.f t102).bind fun t105=>(some t105))) else (some ([]:List Int)))
set_option maxHeartbeats 8000000 in
set_option maxRecDepth 100000 in
theorem tC (k:Nat) (A0:Option Addr) (c0:Nat) (l0:List (cF)) (r:List Int) (w:World) (hr0:Kd.C jW w A0 l0.length l0) (hc0:l0.length≤c0) (h:impl_TriangleRow.f k l0=some r) :
  Calls Tryz.prog 10 #[.slice A0 l0.length c0] w fun e w'=>∃ v0_:Value,e=.returned (v0_)∧Kd.R (Kd.int .i64) 3 w' w.heap.size (fun _=>True) v0_ r∧Below w.heap.size w w':=by
 have HR0:=aE hr0
 have HC0:=aE hc0
 clear hr0 hc0
 have HB:=aE (Below.refl w.heap.size w)
 unfold impl_TriangleRow.f at h
 have H:=h
 clear h
 replace H:=eM H
 obtain ⟨t101,A2,H⟩:=H
 by_cases c3:t101=true
 ·subst c3
  rw [if_pos rfl] at H
  replace H:=eM H
  obtain ⟨t102,A4,H⟩:=H
  replace H:=eM H
  obtain ⟨t105,A5,H⟩:=H
  obtain rfl:=Option.some.inj H
  go_enter Tryz.func10,Tryz.ntmps10
  go_wp2_with (first|((with_reducible refine aJ (f:=30) rfl ?_);refine aV (some 5) Tryz.func30 #[.slice A0 l0.length c0] ?_;(with_reducible refine (cA k _ _ l0 true _ ?side1 ?side2 A2.out).mono ?_);(case side1=>exact kJ HR0.out);(case side2=>exact HC0.out);rintro e w6 ⟨rfl,hb⟩;refine ⟨_,rfl,?_⟩;replace HB:=aE (aD (aX HB) hb);(try clear hb))|((with_reducible refine aJ (f:=36) rfl ?_);refine aV (some 8) Tryz.func36 #[.slice A0 l0.length c0] ?_;(with_reducible refine (nW k _ _ l0 t102 _ ?side1 ?side2 A4.out).mono ?_);(case side1=>exact kJ (Kd.C_below HR0.out HB.out));(case side2=>exact HC0.out);rintro e w7 ⟨v103,rfl,ho0,hb⟩;refine ⟨_,rfl,?_⟩;have HO104:=aE (Kd.R_lower ho0 (aT (aX HB)));replace HB:=aE (aD (aX HB) hb);(try clear hb);(try clear ho0);obtain ⟨Ao8,co8,eo8⟩:=Kd.R_slice HO104.out;subst eo8)|((with_reducible refine aJ (f:=37) rfl ?_);refine aV (some 10) Tryz.func37 #[.slice Ao8 t102.length co8] ?_;(with_reducible refine (qU (fun k_=>some k_=(.slice Ao8 t102.length co8:Value).ownBlock) (.slice Ao8 t102.length co8) t102 t105 w _ ?side1 ?side2 A5.out).mono ?_);(case side1=>exact aX HB);(case side2=>exact Kd.R_tight rfl HO104.out);rintro e w9 ⟨rfl,hy0,hb,hkp⟩;refine ⟨_,rfl,?_⟩;replace HO104:=aE (Kd.R_reok rfl hy0 (fun k_ e_=>HO104.out.1 k_ e_));replace HB:=aE (hb);(try clear hb);(try clear hkp);(try clear hy0)))
  go_ret
  exact ⟨_,bP,bN HO104,aX HB⟩
 ·replace c3:=Bool.eq_false_iff.mpr c3
  subst c3
  rw [if_neg (show ¬ (false=true) by decide)] at H
  obtain rfl:=Option.some.inj H
  go_enter Tryz.func10,Tryz.ntmps10
  go_wp2_with (first|((with_reducible refine aJ (f:=30) rfl ?_);refine aV (some 5) Tryz.func30 #[.slice A0 l0.length c0] ?_;(with_reducible refine (cA k _ _ l0 false _ ?side1 ?side2 A2.out).mono ?_);(case side1=>exact kJ HR0.out);(case side2=>exact HC0.out);rintro e w10 ⟨rfl,hb⟩;refine ⟨_,rfl,?_⟩;replace HB:=aE (aD (aX HB) hb);(try clear hb)))
  go_ret
  exact ⟨_,bP,by first|exact Kd.R_nil _ _ _ _ _|exact Kd.N_nil _ _ _ _ _|exact Kd.V_nil _ _ _ _ _|exact Kd.Q_nil _ _ _ _ _|exact Kd.S_nil _ _ _ _ _,aX HB⟩
/-! ### slices_Index_int_int: function 39 -/
def eB:Nat→List Int→Int→Int→Int→Option (Int)
 | 0,_,_,_,_=>none
 | k+1,x0,x1,x7,x8=>if x8<x7 then (if 0≤x8 then (if x8<(x0.length:Int) then (if x1=(rd x0 x8) then (some x8) else (eB k x0 x1 x7 (wrap64 (x8+1)))) else (none)) else (none)) else (some (-1))
def slices_Index_int_int.f (k:Nat) (l0:List Int) (a1:Int):Option (Int):=eB k l0 a1 (l0.length:Int) 0
set_option maxHeartbeats 8000000 in
set_option maxRecDepth 100000 in
theorem qF (k:Nat) (A0:Option Addr) (c0:Nat) (l0:List Int) (a1:Int) (r:Int) (w:World) (hr0:Kd.C (Kd.int .i64) w A0 l0.length l0) (hc0:l0.length≤c0) (h:slices_Index_int_int.f k l0 a1=some r) :
  Calls Tryz.prog 39 #[.slice A0 l0.length c0,.int .i64 a1] w fun e w'=>e=.returned (.int .i64 r)∧gH w w':=by
 have HR0:=aE hr0
 have HC0:=aE hc0
 clear hr0 hc0
 unfold slices_Index_int_int.f at h
 have H:=h
 clear h
 have H':=aE H
 clear H
 go_enter Tryz.func39,Tryz.ntmps39
 go_wp2
 go_loopg [8] k (fun kq v8 w'=>∃ (x8_1:Int),v8=.int .i64 x8_1∧Aside0 (eB kq l0 a1 (l0.length:Int) x8_1=some r)∧Aside0 (kq≤k)∧gH w w')
 case atStart=>exact ⟨(0),aH,H',⟨Nat.le_refl _⟩,by repeat (first|exact gH.refl _|apply bF)⟩
 case round =>
  clear H'
  obtain ⟨x8_1,rfl,HA,HK1,⟨m1,rfl⟩⟩:=hrel
  cases gk with
  | zero=>exact absurd HA.out (by simp [eB])
  | succ k1 =>
   have H:=HA.out
   clear HA
   simp only [eB] at H
   rcases eV H with ⟨c3b0,H⟩|⟨c3b0,H⟩
   ·obtain ⟨c4b0,H⟩:=cV H
    obtain ⟨c5b0,H⟩:=cV H
    rcases jE H with ⟨c6,H⟩|⟨c6,H⟩
    ·have c6b0:(a1==(rd l0 x8_1))=true:=beq_iff_eq.mpr c6
     have c6b1:(a1 != (rd l0 x8_1))=false:=bne_eq_false_iff_eq.mpr c6
     clear c6
     obtain rfl:=Option.some.inj H
     obtain ⟨p101,q101,ad101,e101,hx101_0⟩:=jP (Kd.at_int HR0.out x8_1)
     cases e101
     go_wp2
     go_ret
     exact ⟨aH,by repeat (first|exact gH.refl _|apply bF)⟩
    ·have c6b0:(a1==(rd l0 x8_1))=false:=beq_eq_false_iff_ne.mpr c6
     have c6b1:(a1 != (rd l0 x8_1))=true:=bne_iff_ne.mpr c6
     have H':=aE H
     clear H
     obtain ⟨p101,q101,ad101,e101,hx101_0⟩:=jP (Kd.at_int HR0.out x8_1)
     cases e101
     go_wp2
     go_roundg k1
     case measure=>have:=HK1.out;omega
     case rel=>exact ⟨(wrap64 (x8_1+1)),aH,H',⟨by have:=HK1.out;omega⟩,by repeat (first|exact gH.refl _|apply bF)⟩
   ·obtain rfl:=Option.some.inj H
    go_wp2
    go_ret
    exact ⟨aH,by repeat (first|exact gH.refl _|apply bF)⟩
/-! ### slices_Min_int_int: function 40 -/
def slices_Min_int_int.f (l0:List Int):Option Int:=match l0 with|[]=>none|x::t=>some (t.foldl mn x)
theorem UE (l:List Int) (x:Int) (i:Nat) (hi:i<l.length):(l.take (i+1)).foldl mn x=mn ((l.take i).foldl mn x) (rd l i):=by
 rw [List.take_succ_eq_append_getElem hi,List.foldl_append]
 simp [rd,List.getD_eq_getElem?_getD,List.getElem?_eq_getElem hi]
set_option maxHeartbeats 1000000 in
set_option maxRecDepth 100000 in
theorem rT (A0:Option Addr) (c0:Nat) (l0:List Int) (r:Int) (w:World) (hr0:Kd.C (Kd.int .i64) w A0 l0.length l0) (hc0:l0.length≤c0) (h:slices_Min_int_int.f l0=some r) :
  Calls Tryz.prog 40 #[.slice A0 l0.length c0] w fun e w'=>e=.returned (.int .i64 r)∧gH w w':=by
 obtain ⟨x,t,hl,hr⟩:∃ x t,l0=x::t∧t.foldl mn x=r:=by
  cases l0 with
  | nil=>simp [slices_Min_int_int.f] at h
  | cons x t=>exact ⟨x,t,rfl,Option.some.inj h⟩
 have HR:=aE hr0
 have HLEN:=aE (show l0.length=t.length+1 by rw [hl];rfl)
 have HMAX:=aE (show l0.length≤9223372036854775807 from hr0.2.1)
 have HX:=aE (show rd l0 0=x by rw [hl];rfl)
 have HT:=aE (show ∀ i:Nat,rd l0 ((i:Int)+1)=rd t i by
  intro i
  rw [hl]
  unfold rd
  rw [show ((i:Int)+1).toNat=i+1 by omega,show ((i:Int)).toNat=i by omega,List.getD_cons_succ])
 have HF:=aE hr
 clear hr0 h hl hr
 have c1:decide ((l0.length:Int)<1)=false:=decide_eq_false (by have:=HLEN.out;omega)
 have q0:((0:Int)<(l0.length:Int))=True:=eq_true (by have:=HLEN.out;omega)
 have q1:(0<l0.length)=True:=eq_true (by have:=HLEN.out;omega)
 obtain ⟨ad,rfl,hx0⟩:=Kd.at_int HR.out 0 (Int.le_refl 0) (by have:=HLEN.out;omega)
 rw [HX.out,show ad.add (Int.toNat 0)=ad by simp [Addr.add]] at hx0
 go_enter Tryz.func40,Tryz.ntmps40
 go_wp2
 go_loopg [3,4] l0.length (fun gg v3 v4 w'=>∃ z:Int,Aside0 (1≤z∧z≤(l0.length:Int)∧l0.length-z.toNat≤gg)∧v4=.int .i64 z∧v3=.int .i64 ((t.take (z-1).toNat).foldl mn x)∧gH w w')
 case atStart=>exact ⟨1,⟨by have:=HLEN.out;omega⟩,rfl,rfl,gH.refl _⟩
 case round =>
  obtain ⟨z,HZ,rfl,rfl,⟨m,rfl⟩⟩:=hrel
  by_cases hlt:z<(l0.length:Int)
  ·have c2:decide (z<(l0.length:Int))=true:=decide_eq_true hlt
   have p3:(0≤z)=True:=eq_true (by have:=HZ.out;omega)
   have q3:(z<(l0.length:Int))=True:=eq_true hlt
   obtain ⟨ad',e,hx1⟩:=Kd.at_int HR.out z (by have:=HZ.out;omega) hlt
   cases e
   have hz:rd l0 z=rd t ((z-1).toNat:Nat):=by
    have:=HT.out (z-1).toNat
    rw [show (((z-1).toNat:Nat):Int)+1=z by have:=HZ.out;omega] at this
    exact this
   rw [hz] at hx1
   have HM:=aE (UE t x (z-1).toNat (by have:=HZ.out;have:=HLEN.out;omega)).symm
   have HW:=aE (show wrap64 (z+1)=z+1 by have:=HZ.out;have:=HMAX.out;unfold wrap64;omega)
   have HL2:=aE hlt
   clear hx0 hz hlt
   obtain ⟨m0,hm0⟩:∃ m0,(t.take (z-1).toNat).foldl mn x=m0:=⟨_,rfl⟩
   obtain ⟨e0,he0⟩:∃ e0,rd t ((z-1).toNat:Nat)=e0:=⟨_,rfl⟩
   rw [he0] at hx1
   rw [hm0]
   have HM:=aE (show mn m0 e0=(t.take ((z-1).toNat+1)).foldl mn x by rw [← hm0,← he0];exact HM.out)
   clear hm0 he0
   go_wp2
   ·go_roundg (l0.length-(z+1).toNat)
    case measure=>have:=HZ.out;have:=HL2.out;omega
    case rel=>exact ⟨wrap64 (z+1),⟨by rw [HW.out];have:=HZ.out;have:=HL2.out;omega⟩,by first|rfl|(simp;done),by rw [HW.out,show (z+1-1).toNat=(z-1).toNat+1 by have:=HZ.out;omega,← HM.out];unfold mn;rw [if_pos (by assumption)],by repeat (first|exact gH.refl _|apply bF)⟩
   ·go_roundg (l0.length-(z+1).toNat)
    case measure=>have:=HZ.out;have:=HL2.out;omega
    case rel=>exact ⟨wrap64 (z+1),⟨by rw [HW.out];have:=HZ.out;have:=HL2.out;omega⟩,by first|rfl|(simp;done),by rw [HW.out,show (z+1-1).toNat=(z-1).toNat+1 by have:=HZ.out;omega,← HM.out];unfold mn;rw [if_neg (by omega)],by repeat (first|exact gH.refl _|apply bF)⟩
  ·have c2:decide (z<(l0.length:Int))=false:=decide_eq_false hlt
   have hti:t.take (z-1).toNat=t:=List.take_of_length_le (by have:=HZ.out;have:=HLEN.out;omega)
   rw [hti,HF.out]
   clear hlt
   go_wp2
   go_ret
   exact ⟨rfl,by repeat (first|exact gH.refl _|apply bF)⟩
/-! ### impl_SmallestTriangle: function 11 -/
def impl_SmallestTriangle.f (k:Nat) (l0:List (cF)):Option (List Int):=(impl_ArePoints.f k l0).bind fun t101=>(if t101=true then ((impl_triangles.f k l0).bind fun t102=>((impl_triplesOf.f k (l0.length:Int)).bind fun t105=>((slices_Min_int_int.f t102).bind fun t108=>((slices_Index_int_int.f k t102 t108).bind fun t109=>(if 0≤t109 then (if t109<(t105.length:Int) then (some (([(aG t105 t109).f0,(aG t105 t109).f1,(aG t105 t109).f2]:List Int))) else (none)) else (none)))))) else (some ([]:List Int)))
set_option maxHeartbeats 8000000 in
set_option maxRecDepth 100000 in
theorem pJ (k:Nat) (A0:Option Addr) (c0:Nat) (l0:List (cF)) (r:List Int) (w:World) (hr0:Kd.C jW w A0 l0.length l0) (hc0:l0.length≤c0) (h:impl_SmallestTriangle.f k l0=some r) :
  Calls Tryz.prog 11 #[.slice A0 l0.length c0] w fun e w'=>∃ v0_:Value,e=.returned (v0_)∧Kd.R (Kd.int .i64) 3 w' w.heap.size (fun _=>True) v0_ r∧Below w.heap.size w w':=by
 have hu56:=Tryz.underlying56
 have HR0:=aE hr0
 have HC0:=aE hc0
 clear hr0 hc0
 have HB:=aE (Below.refl w.heap.size w)
 unfold impl_SmallestTriangle.f at h
 have H:=h
 clear h
 replace H:=eM H
 obtain ⟨t101,A2,H⟩:=H
 by_cases c3:t101=true
 ·subst c3
  rw [if_pos rfl] at H
  replace H:=eM H
  obtain ⟨t102,A4,H⟩:=H
  replace H:=eM H
  obtain ⟨t105,A5,H⟩:=H
  replace H:=eM H
  obtain ⟨t108,A6,H⟩:=H
  replace H:=eM H
  obtain ⟨t109,A7,H⟩:=H
  obtain ⟨c8b0,H⟩:=cV H
  obtain ⟨c9b0,H⟩:=cV H
  obtain ⟨y112,hy112⟩:∃ y_:List Int,y_=(([(aG t105 t109).f0,(aG t105 t109).f1,(aG t105 t109).f2]:List Int)):=⟨_,rfl⟩
  first|(with_reducible replace H:=oO hy112 H)|(with_reducible replace H:=oP hy112 H)|rw [← hy112] at H
  have Ny112:=aE hy112
  clear hy112
  obtain rfl:=Option.some.inj H
  go_enter Tryz.func11,Tryz.ntmps11
  go_wp2_with (first|((with_reducible refine aJ (f:=30) rfl ?_);refine aV (some 6) Tryz.func30 #[.slice A0 l0.length c0] ?_;(with_reducible refine (cA k _ _ l0 true _ ?side1 ?side2 A2.out).mono ?_);(case side1=>exact kJ HR0.out);(case side2=>exact HC0.out);rintro e w10 ⟨rfl,hb⟩;refine ⟨_,rfl,?_⟩;replace HB:=aE (aD (aX HB) hb);(try clear hb);(try clear hk))|((with_reducible refine aJ (f:=36) rfl ?_);refine aV (some 9) Tryz.func36 #[.slice A0 l0.length c0] ?_;(with_reducible refine (nW k _ _ l0 t102 _ ?side1 ?side2 A4.out).mono ?_);(case side1=>exact kJ (Kd.C_below HR0.out HB.out));(case side2=>exact HC0.out);rintro e w11 ⟨v103,rfl,ho0,hb⟩;refine ⟨_,rfl,?_⟩;have HO104:=aE (Kd.R_lower ho0 (aT (aX HB)));replace HB:=aE (aD (aX HB) hb);(try clear hb);(try clear hk);(try clear ho0))|((with_reducible refine aJ (f:=38) rfl ?_);refine aV (some 12) Tryz.func38 #[.int .i64 (l0.length:Int)] ?_;(with_reducible refine (eI k (l0.length:Int) t105 _ A5.out).mono ?_);rintro e w12 ⟨v106,rfl,ho0,hb⟩;refine ⟨_,rfl,?_⟩;replace HO104:=aE (Kd.R_below (bN HO104) hb);have HO107:=aE (Kd.R_lower ho0 (aT (aX HB)));replace HB:=aE (aD (aX HB) hb);(try clear hb);(try clear hk);(try clear ho0);obtain ⟨Ao13,co13,eo13⟩:=Kd.R_slice HO104.out;subst eo13)|((with_reducible refine aJ (f:=40) rfl ?_);refine aV (some 15) Tryz.func40 #[.slice Ao13 t102.length co13] ?_;(with_reducible refine (rT _ _ t102 t108 _ ?side1 ?side2 A6.out).mono ?_);(case side1=>exact kJ (Kd.R_reads' HO104.out).2.2);(case side2=>exact (Kd.R_reads' HO104.out).2.1);rintro e w' ⟨rfl,⟨nd,rfl⟩⟩;refine ⟨_,rfl,?_⟩;(try (rw [nI w12];generalize hq_:World.drewN w12 _=w12;have n0_:Aside0 (Kd.R (Kd.int .i64) 3 w12 w.heap.size (fun _=>True) (.slice Ao13 t102.length co13) t102):=⟨by rw [← hq_];exact (bN HO104)⟩;have n1_:Aside0 (Kd.R FQ 56 w12 w.heap.size (fun _=>True) v106 t105):=⟨by rw [← hq_];exact (bN HO107)⟩;have n2_:Aside0 (Below w.heap.size w w12):=⟨by rw [← hq_];exact (aX HB)⟩;clear HO104 HO107 HB hq_;have HO104:=n0_;have HO107:=n1_;have HB:=n2_;clear n0_ n1_ n2_)))|((with_reducible refine aJ (f:=39) rfl ?_);refine aV (some 16) Tryz.func39 #[.slice Ao13 t102.length co13,.int .i64 t108] ?_;(with_reducible refine (qF k _ _ t102 t108 t109 _ ?side1 ?side2 A7.out).mono ?_);(case side1=>exact kJ (Kd.R_reads' HO104.out).2.2);(case side2=>exact (Kd.R_reads' HO104.out).2.1);rintro e w' ⟨rfl,⟨nd,rfl⟩⟩;refine ⟨_,rfl,?_⟩;(try (rw [nI w12];generalize hq_:World.drewN w12 _=w12;have n0_:Aside0 (Kd.R (Kd.int .i64) 3 w12 w.heap.size (fun _=>True) (.slice Ao13 t102.length co13) t102):=⟨by rw [← hq_];exact (bN HO104)⟩;have n1_:Aside0 (Kd.R FQ 56 w12 w.heap.size (fun _=>True) v106 t105):=⟨by rw [← hq_];exact (bN HO107)⟩;have n2_:Aside0 (Below w.heap.size w w12):=⟨by rw [← hq_];exact (aX HB)⟩;clear HO104 HO107 HB hq_;have HO104:=n0_;have HO107:=n1_;have HB:=n2_;clear n0_ n1_ n2_));obtain ⟨Ao14,co14,eo14⟩:=Kd.R_slice HO107.out;subst eo14;have p110:0≤(t109:Int):=bI;have q110:t109<(t105.length:Int):=bI;obtain ⟨ad110,e110,hx110_0,hx110_1,hx110_2⟩:=rR (Kd.R_reads' HO107.out).2.2 t109 p110 q110;cases e110;replace p110:=eq_true p110;replace q110:=eq_true q110)|((with_reducible refine aN (N:=4) rfl ?_);refine bV (N:=4) #[.int .i64 0,.int .i64 0,.int .i64 0] 56 ?_;intro gb111 hg w15 hbox hb;replace HO104:=aE (Kd.R_below (bN HO104) hb);replace HO107:=aE (Kd.R_below (Kd.R_elderB (bN HO107) gb111 (Nat.le_of_eq hg.symm)) hb);have BK111:=aE (hbox);have GW111:=aE ((dX HB hg));have GE111:=aE ((dX HB hg));replace HB:=aE (aD (aX HB) hb);clear hb hbox hg;have hcz16_0:=aW BK111 0;have hcz16_1:=aW BK111 1;have hcz16_2:=aW BK111 2;have hfz16_0:=aA BK111.out 0;have hfz16_1:=aA BK111.out 1;have hfz16_2:=aA BK111.out 2)|((with_reducible refine aN (N:=25) rfl ?_);refine Kd.R_lit (Kd.int .i64) _ 3 ?hg (N:=25) ?hd (xs:=([(aG t105 t109).f0,(aG t105 t109).f1,(aG t105 t109).f2]:List Int)) (inner:=[.int .i64 ((aG t105 t109).f0),.int .i64 ((aG t105 t109).f1),.int .i64 ((aG t105 t109).f2)]) (ok:=fun _=>True) (okp:=fun _=>True) ?hr ?hp (fun _ hk=>hk) trivial (Below.refl _ _) (Nat.le_refl _) (by simp) ?_;(case hd=>rfl);(case hg=>rfl);(case hr=>first|(go_simp;done)|(go_simp;rfl));(case hp=>exact (dG (show Kd.M (Kd.int .i64) _ _ _ ((aG t105 t109).f0) [.int .i64 ((aG t105 t109).f0)] from rfl) (dG (show Kd.M (Kd.int .i64) _ _ _ ((aG t105 t109).f1) [.int .i64 ((aG t105 t109).f1)] from rfl) (dG (show Kd.M (Kd.int .i64) _ _ _ ((aG t105 t109).f2) [.int .i64 ((aG t105 t109).f2)] from rfl) (kC.none _ _)))));intro v113 w17 ho18 hb hg_ hnew_;clear hg_ hnew_;(first|rw [← Ny112.out] at ho18|(simp only [Int.reduceToNat] at ho18;rw [← Ny112.out] at ho18));replace HO107:=aE (Kd.R_below (by (with_reducible repeat (first|apply kD|apply kE|apply gU));exact (Kd.R_mono (Kd.R_far (p:=⟨gb111,2,none⟩) (Kd.R_far (p:=⟨gb111,1,none⟩) (Kd.R_far (p:=⟨gb111,0,none⟩) (Kd.R_mono HO107.out (fun k_ hk=>(⟨hk,hk.2⟩:_∧k_≠gb111))) (fun _ hk=>hk.2) (.int .i64 ((aG t105 t109).f0))) (fun _ hk=>hk.2) (.int .i64 ((aG t105 t109).f1))) (fun _ hk=>hk.2) (.int .i64 ((aG t105 t109).f2))) (fun _ h_=>h_.1))) hb);have HO114:=aE (Kd.R_lower (Kd.R_new' ho18 (Kd.R_lt (by (with_reducible repeat (first|apply kD|apply kE|apply gU));exact (Kd.R_mono (Kd.R_far (p:=⟨gb111,2,none⟩) (Kd.R_far (p:=⟨gb111,1,none⟩) (Kd.R_far (p:=⟨gb111,0,none⟩) (Kd.R_types HO104.out BK111.out (by decide)) (fun _ hk=>hk.2) (.int .i64 ((aG t105 t109).f0))) (fun _ hk=>hk.2) (.int .i64 ((aG t105 t109).f1))) (fun _ hk=>hk.2) (.int .i64 ((aG t105 t109).f2))) (fun _ h_=>h_.1))))) (aT (aX HB)));replace HO104:=aE (Kd.R_elder' (by (with_reducible repeat (first|apply kD|apply kE|apply gU));exact (Kd.R_mono (Kd.R_far (p:=⟨gb111,2,none⟩) (Kd.R_far (p:=⟨gb111,1,none⟩) (Kd.R_far (p:=⟨gb111,0,none⟩) (Kd.R_types HO104.out BK111.out (by decide)) (fun _ hk=>hk.2) (.int .i64 ((aG t105 t109).f0))) (fun _ hk=>hk.2) (.int .i64 ((aG t105 t109).f1))) (fun _ hk=>hk.2) (.int .i64 ((aG t105 t109).f2))) (fun _ h_=>h_.1))) (Kd.R_base ho18) hb);replace BK111:=aE (aZ (g:=gb111) (o:=.cells #[.int .i64 ((aG t105 t109).f0),.int .i64 ((aG t105 t109).f1),.int .i64 ((aG t105 t109).f2)] 56 (0,0)) (jR BK111) hb);replace HB:=aE (aD (aX HB) hb);clear hb ho18))
  go_ret
  exact ⟨_,bP,by (with_reducible repeat (first|apply kD|apply kE|apply gU));exact Kd.R_mono HO114.out (fun _ hk=>trivial),aX HB⟩
 ·replace c3:=Bool.eq_false_iff.mpr c3
  subst c3
  rw [if_neg (show ¬ (false=true) by decide)] at H
  obtain rfl:=Option.some.inj H
  go_enter Tryz.func11,Tryz.ntmps11
  go_wp2_with (first|((with_reducible refine aJ (f:=30) rfl ?_);refine aV (some 6) Tryz.func30 #[.slice A0 l0.length c0] ?_;(with_reducible refine (cA k _ _ l0 false _ ?side1 ?side2 A2.out).mono ?_);(case side1=>exact kJ HR0.out);(case side2=>exact HC0.out);rintro e w19 ⟨rfl,hb⟩;refine ⟨_,rfl,?_⟩;replace HB:=aE (aD (aX HB) hb);(try clear hb);(try clear hk)))
  go_ret
  exact ⟨_,bP,by first|exact Kd.R_nil _ _ _ _ _|exact Kd.N_nil _ _ _ _ _|exact Kd.V_nil _ _ _ _ _|exact Kd.Q_nil _ _ _ _ _|exact Kd.S_nil _ _ _ _ _,aX HB⟩
/-! ### spec_l1In: function 52 -/
def spec_l1In.f (a0:Int) (a1:Int) (a2:Int):Option (Bool):=if a0 ≥ a1 then (some (decide (a0≤a2))) else (some false)
set_option maxHeartbeats 8000000 in
set_option maxRecDepth 100000 in
theorem iN (a0:Int) (a1:Int) (a2:Int) (r:Bool) (w:World) (h:spec_l1In.f a0 a1 a2=some r) :
  Calls Tryz.prog 52 #[.int .i64 a0,.int .i64 a1,.int .i64 a2] w fun e w'=>e=.returned (.bool r)∧gH w w':=by
 unfold spec_l1In.f at h
 have H:=h
 clear h
 rcases eV H with ⟨c4b0,H⟩|⟨c4b0,H⟩
 ·obtain rfl:=Option.some.inj H
  go_enter Tryz.func52,Tryz.ntmps52
  go_wp2
  go_ret
  exact ⟨aH,by repeat (first|exact gH.refl _|apply bF)⟩
 ·obtain rfl:=Option.some.inj H
  go_enter Tryz.func52,Tryz.ntmps52
  go_wp2
  go_ret
  exact ⟨aH,by repeat (first|exact gH.refl _|apply bF)⟩
/-! ### spec_l2Fits: function 47 -/
def spec_l2Fits.f (a0_0:Int) (a0_1:Int) (a1:Int):Option (Bool):=(spec_l1In.f a0_0 (wrap64 (-a1)) a1).bind fun t102=>(if t102=true then ((spec_l1In.f a0_1 (wrap64 (-a1)) a1).bind fun t103=>(some t103)) else (some false))
set_option maxHeartbeats 8000000 in
set_option maxRecDepth 100000 in
theorem fX (a0_0:Int) (a0_1:Int) (a1:Int) (r:Bool) (w:World) (h:spec_l2Fits.f a0_0 a0_1 a1=some r) :
  Calls Tryz.prog 47 #[.agg #[.int .i64 a0_0,.int .i64 a0_1],.int .i64 a1] w fun e w'=>e=.returned (.bool r)∧Below w.heap.size w w':=by
 have hu28:=Tryz.underlying28
 have HB:=aE (Below.refl w.heap.size w)
 unfold spec_l2Fits.f at h
 have H:=h
 clear h
 replace H:=eM H
 obtain ⟨t102,A3,H⟩:=H
 by_cases c4:t102=true
 ·subst c4
  rw [if_pos rfl] at H
  replace H:=eM H
  obtain ⟨t103,A5,H⟩:=H
  obtain rfl:=Option.some.inj H
  go_enter Tryz.func47,Tryz.ntmps47
  go_wp2_with (first|((with_reducible refine aN (N:=2) rfl ?_);refine bV (N:=2) #[.int .i64 a0_0,.int .i64 a0_1] 28 ?_;intro gb101 hg w6 hbox hb;have BK101:=aE (hbox);have GW101:=aE ((dX HB hg));have GE101:=aE ((dX HB hg));replace HB:=aE (aD (aX HB) hb);clear hb hbox hg;have hcz7_0:=aW BK101 0;have hcz7_1:=aW BK101 1;have hfz7_0:=aA BK101.out 0;have hfz7_1:=aA BK101.out 1)|((with_reducible refine aJ (f:=52) rfl ?_);refine aV (some 10) Tryz.func52 #[.int .i64 a0_0,.int .i64 (wrap64 (-a1)),.int .i64 a1] ?_;(with_reducible refine (iN a0_0 (wrap64 (-a1)) a1 true _ A3.out).mono ?_);rintro e w' ⟨rfl,⟨nd,rfl⟩⟩;refine ⟨_,rfl,?_⟩)|(go_at_call 52;(with_reducible refine (iN a0_1 (wrap64 (-a1)) a1 t103 _ A5.out).mono ?_);rintro e w' ⟨rfl,⟨nd,rfl⟩⟩))
  go_ret
  exact ⟨bP,aX HB⟩
 ·replace c4:=Bool.eq_false_iff.mpr c4
  subst c4
  rw [if_neg (show ¬ (false=true) by decide)] at H
  obtain rfl:=Option.some.inj H
  go_enter Tryz.func47,Tryz.ntmps47
  go_wp2_with (first|((with_reducible refine aN (N:=2) rfl ?_);refine bV (N:=2) #[.int .i64 a0_0,.int .i64 a0_1] 28 ?_;intro gb101 hg w8 hbox hb;have BK101:=aE (hbox);have GW101:=aE ((dX HB hg));have GE101:=aE ((dX HB hg));replace HB:=aE (aD (aX HB) hb);clear hb hbox hg;have hcz9_0:=aW BK101 0;have hcz9_1:=aW BK101 1;have hfz9_0:=aA BK101.out 0;have hfz9_1:=aA BK101.out 1)|((with_reducible refine aJ (f:=52) rfl ?_);refine aV (some 10) Tryz.func52 #[.int .i64 a0_0,.int .i64 (wrap64 (-a1)),.int .i64 a1] ?_;(with_reducible refine (iN a0_0 (wrap64 (-a1)) a1 false _ A3.out).mono ?_);rintro e w' ⟨rfl,⟨nd,rfl⟩⟩;refine ⟨_,rfl,?_⟩))
  go_ret
  exact ⟨bP,aX HB⟩
/-! ### spec_ArePoints: function 23 -/
mutual
def fD:Nat→List (cF)→Int→Option (Bool)
 | 0,_,_=>none
 | k+1,x0,x3=>if x3<(x0.length:Int) then (if 0≤x3 then ((spec_l2Fits.f ((aC x0 x3).f0) ((aC x0 x3).f1) 50).bind fun t103=>(if t103=true then (eJ k x0 x3 0) else (some false))) else (none)) else (some true)
def eJ:Nat→List (cF)→Int→Int→Option (Bool)
 | 0,_,_,_=>none
 | k+1,x0,x3,x4=>if x4<x3 then (fE k x0 x3 x4 0) else (fD k x0 (wrap64 (x3+1)))
def fE:Nat→List (cF)→Int→Int→Int→Option (Bool)
 | 0,_,_,_,_=>none
 | k+1,x0,x3,x4,x5=>if x5<x4 then (if 0≤x5 then (if x5<(x0.length:Int) then (if 0≤x4 then (if x4<(x0.length:Int) then (if 0≤x3 then (if x3<(x0.length:Int) then ((spec_l2Area.f ((aC x0 x5).f0) ((aC x0 x5).f1) ((aC x0 x4).f0) ((aC x0 x4).f1) ((aC x0 x3).f0) ((aC x0 x3).f1)).bind fun t107=>(if t107=0 then (some false) else (fE k x0 x3 x4 (wrap64 (x5+1))))) else (none)) else (none)) else (none)) else (none)) else (none)) else (none)) else (eJ k x0 x3 (wrap64 (x4+1)))
end
def spec_ArePoints.f (k:Nat) (l0:List (cF)):Option (Bool):=(spec_l1In.f (l0.length:Int) 3 7).bind fun t101=>(if t101=true then (fD k l0 0) else (some false))
def qG:Bool×List (List Nat×List Nat):=(true,[([],[]),([],[]),([0,1],[0,1]),([2],[2]),([],[]),([],[]),([4,5],[4,5]),([6],[6]),([],[]),([],[]),([8,9],[8,9]),([10],[10]),([3,7,11],[3,7,11]),([12],[12])])
def xZ:List Nat:=[0,0,3,7,0,0,48,112,0,0,768,1792,4095,8191]
theorem nX:iQ .any (iS Tryz.f23 14)=qG:=by kernel_rfl
theorem nF:dM qG.2 xZ=true:=by kernel_rfl
set_option maxHeartbeats 8000000 in
set_option maxRecDepth 100000 in
theorem cB (k : Nat) (A0 : Option Addr) (c0 : Nat) (l0 : List (cF)) (r : Bool) (w : World) (hr0 : Kd.C jW w A0 l0.length l0) (hc0 : l0.length ≤ c0) (h : spec_ArePoints.f k l0 = some r) :
  Calls Tryz.prog 23 #[.slice A0 l0.length c0] w fun e w'=>e=.returned (.bool r)∧Below w.heap.size w w':=by
 have hu28:=Tryz.underlying28
 have HR0:=aE hr0
 have HC0:=aE hc0
 clear hr0 hc0
 have HB:=aE (Below.refl w.heap.size w)
 unfold spec_ArePoints.f at h
 have H:=h
 clear h
 replace H:=eM H
 obtain ⟨t101,A2,H⟩:=H
 by_cases c3:t101=true
 ·subst c3
  rw [if_pos rfl] at H
  have H':=aE H
  clear H
  go_enter Tryz.func23,Tryz.ntmps23
  go_wp2_with (first|((with_reducible refine aJ (f:=52) rfl ?_);refine aV (some 8) Tryz.func52 #[.int .i64 (l0.length:Int),.int .i64 3,.int .i64 7] ?_;(with_reducible refine (iN (l0.length:Int) 3 7 true _ A2.out).mono ?_);rintro e w' ⟨rfl,⟨nd,rfl⟩⟩;refine ⟨_,rfl,?_⟩))
  go_loopg [3] k (fun kq v3 w'=>∃ (x3_1:Int),v3=.int .i64 x3_1∧Aside0 (fD kq l0 x3_1=some r)∧Aside0 (kq≤k)∧Aside0 (Below w.heap.size w w'))
  case atStart=>exact ⟨(0),aH,H',⟨Nat.le_refl _⟩,⟨aX HB⟩⟩
  case round =>
   clear H'
   try clear c3
   obtain ⟨x3_1,rfl,HA,HK1,HB⟩:=hrel
   cases gk with
   | zero=>exact absurd HA.out (by simp [fD])
   | succ k1 =>
    have H:=HA.out
    clear HA
    simp only [fD] at H
    rcases eV H with ⟨c4b0,H⟩|⟨c4b0,H⟩
    ·obtain ⟨c5b0, H⟩ := cV H
     replace H:=eM H
     obtain ⟨t103,A6,H⟩:=H
     by_cases c7:t103=true
     ·subst c7
      rw [if_pos rfl] at H
      have H':=aE H
      clear H
      have p102:0≤(x3_1:Int):=bI
      have q102:x3_1<(l0.length:Int):=bI
      obtain ⟨ad102,e102,hx102_0,hx102_1⟩:=bW HR0.out x3_1 p102 q102
      cases e102
      replace hx102_0:=aY HB hx102_0
      replace hx102_1:=aY HB hx102_1
      replace p102:=eq_true p102
      replace q102:=eq_true q102
      go_wp2_with (first|((with_reducible refine aJ (f:=47) rfl ?_);refine aV (some 20) Tryz.func47 #[.agg #[.int .i64 ((aC l0 x3_1).f0),.int .i64 ((aC l0 x3_1).f1)],.int .i64 50] ?_;(with_reducible refine (fX ((aC l0 x3_1).f0) ((aC l0 x3_1).f1) 50 true _ A6.out).mono ?_);rintro e w8 ⟨rfl,hb⟩;refine ⟨_,rfl,?_⟩;replace HB:=aE (aD (aX HB) hb);(try clear hb)))
      go_loopg [4] k1 (fun kq v4 w'=>∃ (x4_2:Int),v4=.int .i64 x4_2∧Aside0 (eJ kq l0 x3_1 x4_2=some r)∧Aside0 (kq≤k1)∧Aside0 (Below w.heap.size w w'))
      case atStart=>exact ⟨(0),aH,H',⟨Nat.le_refl _⟩,⟨aX HB⟩⟩
      case round =>
       clear H'
       try clear c3
       try clear c4b0
       try clear c5b0
       try clear c7
       try clear hx102_0
       try clear hx102_1
       try clear p102
       try clear q102
       obtain ⟨x4_2,rfl,HA,HK2,HB⟩:=hrel
       cases gk with
       | zero=>exact absurd HA.out (by simp [eJ])
       | succ k2 =>
        have H:=HA.out
        clear HA
        simp only [eJ] at H
        rcases eV H with ⟨c9b0,H⟩|⟨c9b0,H⟩
        ·have H':=aE H
         clear H
         go_wp2
         go_loopg [5] k2 (fun kq v5 w'=>∃ (x5_3:Int),v5=.int .i64 x5_3∧Aside0 (fE kq l0 x3_1 x4_2 x5_3=some r)∧Aside0 (kq≤k2)∧Aside0 (Below w.heap.size w w'))
         case atStart=>exact ⟨(0),aH,H',⟨Nat.le_refl _⟩,⟨aX HB⟩⟩
         case round =>
          clear H'
          try clear c3
          try clear c4b0
          try clear c5b0
          try clear c7
          try clear c9b0
          try clear hx102_0
          try clear hx102_1
          try clear p102
          try clear q102
          obtain ⟨x5_3,rfl,HA,HK3,HB⟩:=hrel
          cases gk with
          | zero=>exact absurd HA.out (by simp [fE])
          | succ k3 =>
           have H:=HA.out
           clear HA
           simp only [fE] at H
           rcases eV H with ⟨c10b0,H⟩|⟨c10b0,H⟩
           ·obtain ⟨c11b0,H⟩:=cV H
            obtain ⟨c12b0,H⟩:=cV H
            obtain ⟨c13b0,H⟩:=cV H
            obtain ⟨c14b0,H⟩:=cV H
            obtain ⟨c15b0,H⟩:=cV H
            obtain ⟨c16b0,H⟩:=cV H
            replace H:=eM H
            obtain ⟨t107,A17,H⟩:=H
            rcases jE H with ⟨c18,H⟩|⟨c18,H⟩
            ·have c18b0:(t107==0)=true:=beq_iff_eq.mpr c18
             have c18b1:(t107 != 0)=false:=bne_eq_false_iff_eq.mpr c18
             clear c18
             obtain rfl:=Option.some.inj H
             try go_wp2
             replace HB:=aE (jK HB.out)
             have p104:0≤(x5_3:Int):=bI
             have q104:x5_3<(l0.length:Int):=bI
             obtain ⟨ad104,e104,hx104_0,hx104_1⟩:=bW HR0.out x5_3 p104 q104
             have hw104_1:=hx104_1
             have hw104_0:=hx104_0
             obtain rfl:ad102=ad104:=(by injection e104)
             replace hx104_0:=aY HB hx104_0
             replace hx104_1:=aY HB hx104_1
             replace p104:=eq_true p104
             replace q104:=eq_true q104
             have p105:0≤(x4_2:Int):=bI
             have q105:x4_2<(l0.length:Int):=bI
             obtain ⟨ad105,e105,hx105_0,hx105_1⟩:=bW HR0.out x4_2 p105 q105
             have hw105_1:=hx105_1
             have hw105_0:=hx105_0
             obtain rfl:ad102=ad105:=(by injection e105)
             replace hx105_0:=aY HB hx105_0
             replace hx105_1:=aY HB hx105_1
             replace p105:=eq_true p105
             replace q105:=eq_true q105
             have p106:0≤(x3_1:Int):=bI
             have q106:x3_1<(l0.length:Int):=bI
             obtain ⟨ad106,e106,hx106_0,hx106_1⟩:=bW HR0.out x3_1 p106 q106
             have hw106_1:=hx106_1
             have hw106_0:=hx106_0
             obtain rfl:ad102=ad106:=(by injection e106)
             replace hx106_0:=aY HB hx106_0
             replace hx106_1:=aY HB hx106_1
             replace p106:=eq_true p106
             replace q106:=eq_true q106
             refine dA (n:=14) (S:=fun w'=>w'.cell? (ad102.add ((x5_3).toNat*2))=some (.int .i64 ((aC l0 x5_3).f0))∧w'.cell? ⟨(ad102.add ((x5_3).toNat*2)).block,(ad102.add ((x5_3).toNat*2)).off+1,none⟩=some (.int .i64 ((aC l0 x5_3).f1))∧w'.cell? (ad102.add ((x4_2).toNat*2))=some (.int .i64 ((aC l0 x4_2).f0))∧w'.cell? ⟨(ad102.add ((x4_2).toNat*2)).block,(ad102.add ((x4_2).toNat*2)).off+1,none⟩=some (.int .i64 ((aC l0 x4_2).f1))∧w'.cell? (ad102.add ((x3_1).toNat*2))=some (.int .i64 ((aC l0 x3_1).f0))∧w'.cell? ⟨(ad102.add ((x3_1).toNat*2)).block,(ad102.add ((x3_1).toNat*2)).off+1,none⟩=some (.int .i64 ((aC l0 x3_1).f1))) (ds:=[]) (bm 14 0) (by kernel_rfl) rfl rfl ⟨(aY HB hw104_0),(aY HB hw104_1),(aY HB hw105_0),(aY HB hw105_1),(aY HB hw106_0),(aY HB hw106_1)⟩ (fun hHeld=>?_);refine bO nX nF (fun HT_ HW_=>?_)
             generalize wr.drew=w19 at HB hx104_0 hx104_1 hx105_0 hx105_1 hx106_0 hx106_1 hHeld ⊢
             refine bU ((0,0,32,1)::(0,1,33,3)::(0,2,34,7)::(0,4,36,23)::(0,5,37,55)::(0,6,38,119)::(0,8,40,375)::(0,9,41,887)::(0,10,42,1911)::(2,3,35,1919)::(2,7,39,2047)::(2,11,43,4095)::[]) ?_
             iterate 12 (first|refine jT HT_ ?_|refine pZ HT_ HW_ hHeld ?_)
             refine aU ?_
             refine dQ (i:=12) (N:=some 44) (bm 14 8191) rfl rfl (bJ HT_.out (by kernel_rfl)) (by decide) (fun K hK=>?_)
             refine cN Tryz.func53 #[.agg #[.int .i64 ((aC l0 x5_3).f0),.int .i64 ((aC l0 x5_3).f1)],.agg #[.int .i64 ((aC l0 x4_2).f0),.int .i64 ((aC l0 x4_2).f1)],.agg #[.int .i64 ((aC l0 x3_1).f0),.int .i64 ((aC l0 x3_1).f1)]] ?_
             with_reducible refine (gX ((aC l0 x5_3).f0) ((aC l0 x5_3).f1) ((aC l0 x4_2).f0) ((aC l0 x4_2).f1) ((aC l0 x3_1).f0) ((aC l0 x3_1).f1) t107 _ A17.out).mono ?_
             rintro e w20 ⟨rfl,hb⟩
             refine ⟨_,rfl,?_⟩
             replace HB:=aE (aD (aX HB) hb)
             (try clear hb)
             refine hK.out _ _ ⟨(aY HB hw104_0),(aY HB hw104_1),(aY HB hw105_0),(aY HB hw105_1),(aY HB hw106_0),(aY HB hw106_1)⟩ (fun hHeld=>?_)
             clear hK K
             refine gA ?_
             refine bU ((0,13,45,16383)::[]) ?_
             iterate 1 (first|refine jT HT_ ?_)
             refine aU ?_
             refine eN (cK HT_.out (by kernel_rfl)) ?_
             try go_wp2
             go_ret
             exact ⟨bP,aX HB⟩
            ·have c18b0:(t107==0)=false:=beq_eq_false_iff_ne.mpr c18
             have c18b1:(t107 != 0)=true:=bne_iff_ne.mpr c18
             have H':=aE H
             clear H
             try go_wp2
             replace HB:=aE (jK HB.out)
             have p104:0≤(x5_3:Int):=bI
             have q104:x5_3<(l0.length:Int):=bI
             obtain ⟨ad104,e104,hx104_0,hx104_1⟩:=bW HR0.out x5_3 p104 q104
             have hw104_1:=hx104_1
             have hw104_0:=hx104_0
             obtain rfl:ad102=ad104:=(by injection e104)
             replace hx104_0:=aY HB hx104_0
             replace hx104_1:=aY HB hx104_1
             replace p104:=eq_true p104
             replace q104:=eq_true q104
             have p105:0≤(x4_2:Int):=bI
             have q105:x4_2<(l0.length:Int):=bI
             obtain ⟨ad105,e105,hx105_0,hx105_1⟩:=bW HR0.out x4_2 p105 q105
             have hw105_1:=hx105_1
             have hw105_0:=hx105_0
             obtain rfl:ad102=ad105:=(by injection e105)
             replace hx105_0:=aY HB hx105_0
             replace hx105_1:=aY HB hx105_1
             replace p105:=eq_true p105
             replace q105:=eq_true q105
             have p106:0≤(x3_1:Int):=bI
             have q106:x3_1<(l0.length:Int):=bI
             obtain ⟨ad106,e106,hx106_0,hx106_1⟩:=bW HR0.out x3_1 p106 q106
             have hw106_1:=hx106_1
             have hw106_0:=hx106_0
             obtain rfl:ad102=ad106:=(by injection e106)
             replace hx106_0:=aY HB hx106_0
             replace hx106_1:=aY HB hx106_1
             replace p106:=eq_true p106
             replace q106:=eq_true q106
             refine dA (n:=14) (S:=fun w'=>w'.cell? (ad102.add ((x5_3).toNat*2))=some (.int .i64 ((aC l0 x5_3).f0))∧w'.cell? ⟨(ad102.add ((x5_3).toNat*2)).block,(ad102.add ((x5_3).toNat*2)).off+1,none⟩=some (.int .i64 ((aC l0 x5_3).f1))∧w'.cell? (ad102.add ((x4_2).toNat*2))=some (.int .i64 ((aC l0 x4_2).f0))∧w'.cell? ⟨(ad102.add ((x4_2).toNat*2)).block,(ad102.add ((x4_2).toNat*2)).off+1,none⟩=some (.int .i64 ((aC l0 x4_2).f1))∧w'.cell? (ad102.add ((x3_1).toNat*2))=some (.int .i64 ((aC l0 x3_1).f0))∧w'.cell? ⟨(ad102.add ((x3_1).toNat*2)).block,(ad102.add ((x3_1).toNat*2)).off+1,none⟩=some (.int .i64 ((aC l0 x3_1).f1))) (ds:=[]) (bm 14 0) (by kernel_rfl) rfl rfl ⟨(aY HB hw104_0),(aY HB hw104_1),(aY HB hw105_0),(aY HB hw105_1),(aY HB hw106_0),(aY HB hw106_1)⟩ (fun hHeld=>?_);refine bO nX nF (fun HT_ HW_=>?_)
             generalize wr.drew=w21 at HB hx104_0 hx104_1 hx105_0 hx105_1 hx106_0 hx106_1 hHeld ⊢
             refine bU ((0,0,32,1)::(0,1,33,3)::(0,2,34,7)::(0,4,36,23)::(0,5,37,55)::(0,6,38,119)::(0,8,40,375)::(0,9,41,887)::(0,10,42,1911)::(2,3,35,1919)::(2,7,39,2047)::(2,11,43,4095)::[]) ?_
             iterate 12 (first|refine jT HT_ ?_|refine pZ HT_ HW_ hHeld ?_)
             refine aU ?_
             refine dQ (i:=12) (N:=some 44) (bm 14 8191) rfl rfl (bJ HT_.out (by kernel_rfl)) (by decide) (fun K hK=>?_)
             refine cN Tryz.func53 #[.agg #[.int .i64 ((aC l0 x5_3).f0),.int .i64 ((aC l0 x5_3).f1)],.agg #[.int .i64 ((aC l0 x4_2).f0),.int .i64 ((aC l0 x4_2).f1)],.agg #[.int .i64 ((aC l0 x3_1).f0),.int .i64 ((aC l0 x3_1).f1)]] ?_
             with_reducible refine (gX ((aC l0 x5_3).f0) ((aC l0 x5_3).f1) ((aC l0 x4_2).f0) ((aC l0 x4_2).f1) ((aC l0 x3_1).f0) ((aC l0 x3_1).f1) t107 _ A17.out).mono ?_
             rintro e w22 ⟨rfl,hb⟩
             refine ⟨_,rfl,?_⟩
             replace HB:=aE (aD (aX HB) hb)
             (try clear hb)
             refine hK.out _ _ ⟨(aY HB hw104_0),(aY HB hw104_1),(aY HB hw105_0),(aY HB hw105_1),(aY HB hw106_0),(aY HB hw106_1)⟩ (fun hHeld=>?_)
             clear hK K
             refine gA ?_
             refine bU ((0,13,45,16383)::[]) ?_
             iterate 1 (first|refine jT HT_ ?_)
             refine aU ?_
             refine eN (cK HT_.out (by kernel_rfl)) ?_
             try go_wp2
             go_roundg k3
             case measure=>have:=HK1.out;have:=HK2.out;have:=HK3.out;omega
             case rel=>exact ⟨(wrap64 (x5_3+1)),aH,H',⟨by have:=HK1.out;have:=HK2.out;have:=HK3.out;omega⟩,⟨aX HB⟩⟩
           ·have H':=aE H
            clear H
            go_wp2
            go_roundg k3
            case measure=>have:=HK1.out;have:=HK2.out;have:=HK3.out;omega
            case rel=>exact ⟨(wrap64 (x4_2+1)),aH,H',⟨by have:=HK1.out;have:=HK2.out;have:=HK3.out;omega⟩,⟨aX HB⟩⟩
        ·have H':=aE H
         clear H
         go_wp2
         go_roundg k2
         case measure=>have:=HK1.out;have:=HK2.out;omega
         case rel=>exact ⟨(wrap64 (x3_1+1)),aH,H',⟨by have:=HK1.out;have:=HK2.out;omega⟩,⟨aX HB⟩⟩
     ·replace c7:=Bool.eq_false_iff.mpr c7
      subst c7
      rw [if_neg (show ¬ (false=true) by decide)] at H
      obtain rfl:=Option.some.inj H
      have p102:0≤(x3_1:Int):=bI
      have q102:x3_1<(l0.length:Int):=bI
      obtain ⟨ad102,e102,hx102_0,hx102_1⟩:=bW HR0.out x3_1 p102 q102
      cases e102
      replace hx102_0:=aY HB hx102_0
      replace hx102_1:=aY HB hx102_1
      replace p102:=eq_true p102
      replace q102:=eq_true q102
      go_wp2_with (first|((with_reducible refine aJ (f:=47) rfl ?_);refine aV (some 20) Tryz.func47 #[.agg #[.int .i64 ((aC l0 x3_1).f0),.int .i64 ((aC l0 x3_1).f1)],.int .i64 50] ?_;(with_reducible refine (fX ((aC l0 x3_1).f0) ((aC l0 x3_1).f1) 50 false _ A6.out).mono ?_);rintro e w23 ⟨rfl,hb⟩;refine ⟨_,rfl,?_⟩;replace HB:=aE (aD (aX HB) hb);(try clear hb)))
      go_ret
      exact ⟨bP,aX HB⟩
    ·obtain rfl:=Option.some.inj H
     go_wp2
     go_ret
     exact ⟨bP,aX HB⟩
 ·replace c3:=Bool.eq_false_iff.mpr c3
  subst c3
  rw [if_neg (show ¬ (false=true) by decide)] at H
  obtain rfl:=Option.some.inj H
  go_enter Tryz.func23,Tryz.ntmps23
  go_wp2_with (first|((with_reducible refine aJ (f:=52) rfl ?_);refine aV (some 8) Tryz.func52 #[.int .i64 (l0.length:Int),.int .i64 3,.int .i64 7] ?_;(with_reducible refine (iN (l0.length:Int) 3 7 false _ A2.out).mono ?_);rintro e w' ⟨rfl,⟨nd,rfl⟩⟩;refine ⟨_,rfl,?_⟩))
  go_ret
  exact ⟨bP,aX HB⟩
/-! ### spec_l3Byte: function 55 -/
def spec_l3Byte.f (a0:Int):Option (ByteArray):=if a0 > 0 then (some (⟨#[43]⟩:ByteArray)) else (some (⟨#[45]⟩:ByteArray))
set_option maxHeartbeats 8000000 in
set_option maxRecDepth 100000 in
theorem lI (a0:Int) (r:ByteArray) (w:World) (h:spec_l3Byte.f a0=some r) :
  Calls Tryz.prog 55 #[.int .i64 a0] w fun e w'=>e=.returned (.string r)∧gH w w':=by
 unfold spec_l3Byte.f at h
 have H:=h
 clear h
 rcases eV H with ⟨c2b0,H⟩|⟨c2b0,H⟩
 ·obtain rfl:=Option.some.inj H
  go_enter Tryz.func55,Tryz.ntmps55
  go_wp2
  go_ret
  exact ⟨aH,by repeat (first|exact gH.refl _|apply bF)⟩
 ·obtain rfl:=Option.some.inj H
  go_enter Tryz.func55,Tryz.ntmps55
  go_wp2
  go_ret
  exact ⟨aH,by repeat (first|exact gH.refl _|apply bF)⟩
end Go.Proofs.YteaagaekdkolnaaGreat.P

