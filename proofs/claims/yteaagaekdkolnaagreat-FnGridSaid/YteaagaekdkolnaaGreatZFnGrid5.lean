/- A part of the proof of FnGrid: printed contracts and plain laws, joined by a program of this session. -/
import Derived.Test.YteaagaekdkolnaaGreatZFnGrid4
namespace Go.Proofs.YteaagaekdkolnaaGreat.P
open Go.RowKit Go.Proofs.YteaagaekdkolnaaGreatW.PrintWords Go.Proofs.YteaagaekdkolnaaGreatW.PrintLast Go.Proofs.YteaagaekdkolnaaGreatW.PrintMore
attribute [local go_sem] max2_int min2_int max_two min_two max_three min_three max_four min_four
set_option linter.unusedVariables false
set_option linter.unusedSimpArgs false
/-! ### spec_BoxOf: function 42 -/
def jI:Nat→List (cF)→List Int→Int→Option (List Int)
 | 0,_,_,_=>none
 | k+1,x0,x3,x4=>if x4<(x0.length:Int) then (if 0<(x3.length:Int) then (if 0≤x4 then ((spec_l1Min.f (rd x3 0) ((aC x0 x4).f0)).bind fun t114=>((some (x3.set (0:Int).toNat t114:List Int)).bind fun y115=>(if 1<(x3.length:Int) then ((spec_l1Min.f (rd y115 1) ((aC x0 x4).f1)).bind fun t118=>((some (y115.set (1:Int).toNat t118:List Int)).bind fun y119=>(if 2<(x3.length:Int) then ((spec_l1Max.f (rd y119 2) ((aC x0 x4).f0)).bind fun t122=>((some (y119.set (2:Int).toNat t122:List Int)).bind fun y123=>(if 3<(x3.length:Int) then ((spec_l1Max.f (rd y123 3) ((aC x0 x4).f1)).bind fun t126=>(jI k x0 (y123.set (3:Int).toNat t126) (wrap64 (x4+1)))) else (none)))) else (none)))) else (none)))) else (none)) else (none)) else (some x3)
def spec_BoxOf.f (k:Nat) (l0:List (cF)):Option (List Int):=(spec_ArePoints.f k l0).bind fun t101=>(if t101=true then (if 0<(l0.length:Int) then (jI k l0 (([(aC l0 0).f0,(aC l0 0).f1,(aC l0 0).f0,(aC l0 0).f1]:List Int)) 1) else (none)) else (some (([]:List Int))))
def xI:Bool×List (List Nat×List Nat):=(true,[([],[]),([0],[0]),([1],[1]),([2],[2]),([],[]),([4],[4]),([5],[5]),([6],[6]),([],[]),([8],[8]),([9],[9]),([10],[10]),([],[]),([12],[12]),([13],[13]),([14],[14]),([3,7,11,15],[3,7,11,15]),([16,0,1,2,3,4,5,6,7,8,9,10,11,12,13,14,15,16],[16])])
def FB:List Nat:=[0,1,3,7,0,16,48,112,0,256,768,1792,0,4096,12288,28672,65535,131071]
theorem CQ:iQ .any (iS Tryz.f42 3)=xI:=by kernel_rfl
theorem AZ:dM xI.2 FB=true:=by kernel_rfl
def xJ:Bool×List (List Nat×List Nat):=(true,[([],[]),([],[]),([1],[1]),([2],[2]),([],[]),([],[]),([4,5],[4,5]),([6],[6]),([7],[7]),([3,8],[3,8]),([0,0,1,2,3,4,5,6,7,8,9],[0]),([10,9,9,0,1,2,3,4,5,6,7,8,9],[9,10])])
def FC:List Nat:=[0,0,2,6,0,0,48,112,240,510,1023,2047]
theorem CR:iQ .any (iS Tryz.f42 7)=xJ:=by kernel_rfl
theorem AH:dM xJ.2 FC=true:=by kernel_rfl
def xK:Bool×List (List Nat×List Nat):=(true,[([],[]),([],[]),([1],[1]),([2],[2]),([],[]),([],[]),([4,5],[4,5]),([6],[6]),([7],[7]),([3,8],[3,8]),([0,0,1,2,3,4,5,6,7,8,9],[0]),([10,9,9,0,1,2,3,4,5,6,7,8,9],[9,10])])
def FD:List Nat:=[0,0,2,6,0,0,48,112,240,510,1023,2047]
theorem CS:iQ .any (iS Tryz.f42 8)=xK:=by kernel_rfl
theorem BA:dM xK.2 FD=true:=by kernel_rfl
def xL:Bool×List (List Nat×List Nat):=(true,[([],[]),([],[]),([1],[1]),([2],[2]),([],[]),([],[]),([4,5],[4,5]),([6],[6]),([7],[7]),([3,8],[3,8]),([0,0,1,2,3,4,5,6,7,8,9],[0]),([10,9,9,0,1,2,3,4,5,6,7,8,9],[9,10])])
def FE:List Nat:=[0,0,2,6,0,0,48,112,240,510,1023,2047]
theorem CT:iQ .any (iS Tryz.f42 9)=xL:=by kernel_rfl
theorem BB:dM xL.2 FE=true:=by kernel_rfl
def vI:Bool×List (List Nat×List Nat):=(true,[([],[]),([],[]),([1],[1]),([2],[2]),([],[]),([],[]),([4,5],[4,5]),([6],[6]),([7],[7]),([3,8],[3,8]),([0,0,1,2,3,4,5,6,7,8,9],[0]),([10,9,9,0,1,2,3,4,5,6,7,8,9],[9,10])])
def DH:List Nat:=[0,0,2,6,0,0,48,112,240,510,1023,2047]
theorem BC:iQ .any (iS Tryz.f42 10)=vI:=by kernel_rfl
theorem zF:dM vI.2 DH=true:=by kernel_rfl
set_option maxHeartbeats 8000000 in
set_option maxRecDepth 100000 in
theorem BD (k:Nat) (A0:Option Addr) (c0:Nat) (l0:List (cF)) (r:List Int) (w:World) (hr0:Kd.C jW w A0 l0.length l0) (hc0:l0.length≤c0) (h:spec_BoxOf.f k l0=some r) :
  Calls Tryz.prog 42 #[.slice A0 l0.length c0] w fun e w'=>∃ v0_:Value,e=.returned (v0_)∧Kd.R (Kd.int .i64) 3 w' w.heap.size (fun _=>True) v0_ r∧Below w.heap.size w w':=by
 have HR0:=aE hr0
 have HC0:=aE hc0
 clear hr0 hc0
 have HB:=aE (Below.refl w.heap.size w)
 unfold spec_BoxOf.f at h
 have H:=h
 clear h
 replace H:=eM H
 obtain ⟨t101,A2,H⟩:=H
 by_cases c3:t101=true
 ·subst c3
  rw [if_pos rfl] at H
  obtain ⟨c4,H⟩:=gQ H
  have c4b0:=decide_eq_true c4
  have c4b1:decide (0<l0.length)=true:=decide_eq_true (by omega)
  clear c4
  obtain ⟨y109,hy109⟩:∃ y_:List Int,y_=(([(aC l0 0).f0,(aC l0 0).f1,(aC l0 0).f0,(aC l0 0).f1]:List Int)):=⟨_,rfl⟩
  first|(with_reducible replace H:=oO hy109 H)|(with_reducible replace H:=oP hy109 H)|rw [← hy109] at H
  have Ny109:=aE hy109
  clear hy109
  have H':=aE H
  clear H
  go_enter Tryz.func42,Tryz.ntmps42
  try go_wp2_with (first|((with_reducible refine aJ (f:=23) rfl ?_);refine aV (some 6) Tryz.func23 #[.slice A0 l0.length c0] ?_;(with_reducible refine (cB k _ _ l0 true _ ?side1 ?side2 A2.out).mono ?_);(case side1=>exact kJ HR0.out);(case side2=>exact HC0.out);rintro e w5 ⟨rfl,hb⟩;refine ⟨_,rfl,?_⟩;replace HB:=aE (aD (aX HB) hb);(try clear hb);(try clear hk)))
  replace HB:=aE (jK HB.out)
  have p105:0≤(0:Int):=(by omega)
  have q105:0<(l0.length:Int):=bI
  obtain ⟨ad105,e105,hx105_0,hx105_1⟩:=bW HR0.out 0 p105 q105
  have hw105_1:=hx105_1
  (try rw [show ((0:Int)).toNat=0 from rfl] at hw105_1)
  (try rw [show 0*2=0 from rfl] at hw105_1)
  (try rw [Addr.add_zero'] at hw105_1)
  have hw105_0:=hx105_0
  (try rw [show ((0:Int)).toNat=0 from rfl] at hw105_0)
  (try rw [show 0*2=0 from rfl] at hw105_0)
  (try rw [Addr.add_zero'] at hw105_0)
  cases e105
  have qi105:(0<l0.length)=True:=eq_true (by omega)
  (try rw [show ((0:Int)).toNat=0 from rfl] at hx105_0)
  (try rw [show 0*2=0 from rfl] at hx105_0)
  (try rw [Addr.add_zero'] at hx105_0)
  (try rw [show ((0:Int)).toNat=0 from rfl] at hx105_1)
  (try rw [show 0*2=0 from rfl] at hx105_1)
  (try rw [Addr.add_zero'] at hx105_1)
  replace hx105_0:=aY HB hx105_0
  replace hx105_1:=aY HB hx105_1
  replace p105:=eq_true p105
  replace q105:=eq_true q105
  have p106:0≤(0:Int):=(by omega)
  have q106:0<(l0.length:Int):=bI
  obtain ⟨ad106,e106,hx106_0,hx106_1⟩:=bW HR0.out 0 p106 q106
  have hw106_1:=hx106_1
  (try rw [show ((0:Int)).toNat=0 from rfl] at hw106_1)
  (try rw [show 0*2=0 from rfl] at hw106_1)
  (try rw [Addr.add_zero'] at hw106_1)
  have hw106_0:=hx106_0
  (try rw [show ((0:Int)).toNat=0 from rfl] at hw106_0)
  (try rw [show 0*2=0 from rfl] at hw106_0)
  (try rw [Addr.add_zero'] at hw106_0)
  obtain rfl:ad105=ad106:=(by injection e106)
  have qi106:(0<l0.length)=True:=eq_true (by omega)
  (try rw [show ((0:Int)).toNat=0 from rfl] at hx106_0)
  (try rw [show 0*2=0 from rfl] at hx106_0)
  (try rw [Addr.add_zero'] at hx106_0)
  (try rw [show ((0:Int)).toNat=0 from rfl] at hx106_1)
  (try rw [show 0*2=0 from rfl] at hx106_1)
  (try rw [Addr.add_zero'] at hx106_1)
  replace hx106_0:=aY HB hx106_0
  replace hx106_1:=aY HB hx106_1
  replace p106:=eq_true p106
  replace q106:=eq_true q106
  have p107:0≤(0:Int):=(by omega)
  have q107:0<(l0.length:Int):=bI
  obtain ⟨ad107,e107,hx107_0,hx107_1⟩:=bW HR0.out 0 p107 q107
  have hw107_1:=hx107_1
  (try rw [show ((0:Int)).toNat=0 from rfl] at hw107_1)
  (try rw [show 0*2=0 from rfl] at hw107_1)
  (try rw [Addr.add_zero'] at hw107_1)
  have hw107_0:=hx107_0
  (try rw [show ((0:Int)).toNat=0 from rfl] at hw107_0)
  (try rw [show 0*2=0 from rfl] at hw107_0)
  (try rw [Addr.add_zero'] at hw107_0)
  obtain rfl:ad105=ad107:=(by injection e107)
  have qi107:(0<l0.length)=True:=eq_true (by omega)
  (try rw [show ((0:Int)).toNat=0 from rfl] at hx107_0)
  (try rw [show 0*2=0 from rfl] at hx107_0)
  (try rw [Addr.add_zero'] at hx107_0)
  (try rw [show ((0:Int)).toNat=0 from rfl] at hx107_1)
  (try rw [show 0*2=0 from rfl] at hx107_1)
  (try rw [Addr.add_zero'] at hx107_1)
  replace hx107_0:=aY HB hx107_0
  replace hx107_1:=aY HB hx107_1
  replace p107:=eq_true p107
  replace q107:=eq_true q107
  have p108:0≤(0:Int):=(by omega)
  have q108:0<(l0.length:Int):=bI
  obtain ⟨ad108,e108,hx108_0,hx108_1⟩:=bW HR0.out 0 p108 q108
  have hw108_1:=hx108_1
  (try rw [show ((0:Int)).toNat=0 from rfl] at hw108_1)
  (try rw [show 0*2=0 from rfl] at hw108_1)
  (try rw [Addr.add_zero'] at hw108_1)
  have hw108_0:=hx108_0
  (try rw [show ((0:Int)).toNat=0 from rfl] at hw108_0)
  (try rw [show 0*2=0 from rfl] at hw108_0)
  (try rw [Addr.add_zero'] at hw108_0)
  obtain rfl:ad105=ad108:=(by injection e108)
  have qi108:(0<l0.length)=True:=eq_true (by omega)
  (try rw [show ((0:Int)).toNat=0 from rfl] at hx108_0)
  (try rw [show 0*2=0 from rfl] at hx108_0)
  (try rw [Addr.add_zero'] at hx108_0)
  (try rw [show ((0:Int)).toNat=0 from rfl] at hx108_1)
  (try rw [show 0*2=0 from rfl] at hx108_1)
  (try rw [Addr.add_zero'] at hx108_1)
  replace hx108_0:=aY HB hx108_0
  replace hx108_1:=aY HB hx108_1
  replace p108:=eq_true p108
  replace q108:=eq_true q108
  refine dA (n:=18) (S:=fun w'=>w'.cell? ad105=some (.int .i64 ((aC l0 0).f0))∧w'.cell? ⟨ad105.block,ad105.off+1,none⟩=some (.int .i64 ((aC l0 0).f1))∧w'.cell? ad105=some (.int .i64 ((aC l0 0).f0))∧w'.cell? ⟨ad105.block,ad105.off+1,none⟩=some (.int .i64 ((aC l0 0).f1))∧w'.cell? ad105=some (.int .i64 ((aC l0 0).f0))∧w'.cell? ⟨ad105.block,ad105.off+1,none⟩=some (.int .i64 ((aC l0 0).f1))∧w'.cell? ad105=some (.int .i64 ((aC l0 0).f0))∧w'.cell? ⟨ad105.block,ad105.off+1,none⟩=some (.int .i64 ((aC l0 0).f1))) (ds:=[]) (bm 18 0) (by kernel_rfl) rfl rfl ⟨(aY HB hw105_0),(aY HB hw105_1),(aY HB hw106_0),(aY HB hw106_1),(aY HB hw107_0),(aY HB hw107_1),(aY HB hw108_0),(aY HB hw108_1)⟩ (fun hHeld=>?_);refine bO CQ AZ (fun HT_ HW_=>?_)
  generalize w5.drew=w6 at HB hx105_0 hx105_1 hx106_0 hx106_1 hx107_0 hx107_1 hx108_0 hx108_1 hHeld ⊢
  refine bU ((0,0,9,1)::(0,1,10,3)::(0,2,11,7)::(0,4,13,23)::(0,5,14,55)::(0,6,15,119)::(0,8,17,375)::(0,9,18,887)::(0,10,19,1911)::(0,12,21,6007)::(0,13,22,14199)::(0,14,23,30583)::(2,3,12,30591)::(2,7,16,30719)::(2,11,20,32767)::(2,15,24,65535)::[]) ?_
  iterate 16 (first|refine jT HT_ ?_|refine pZ HT_ HW_ hHeld ?_)
  refine aU ?_
  refine dQ (i:=16) (N:=some 25) (bm 18 131071) rfl rfl (bJ HT_.out (by kernel_rfl)) (by decide) (fun K hK=>?_)
  refine Kd.R_lit_step (Kd.int .i64) _ 3 ?hg (N:=25) ?hd (xs:=([(aC l0 0).f0,(aC l0 0).f1,(aC l0 0).f0,(aC l0 0).f1]:List Int)) (inner:=[.int .i64 ((aC l0 0).f0),.int .i64 ((aC l0 0).f1),.int .i64 ((aC l0 0).f0),.int .i64 ((aC l0 0).f1)]) (ok:=fun _=>True) (okp:=fun _=>True) ?hr ?hp (fun _ hk=>hk) trivial (Below.refl _ _) (Nat.le_refl _) (by simp) ?_;(case hd=>rfl);(case hg=>rfl);(case hr=>first|(go_simp;done)|(go_simp;rfl));(case hp=>exact (dG (show Kd.M (Kd.int .i64) _ _ _ ((aC l0 0).f0) [.int .i64 ((aC l0 0).f0)] from rfl) (dG (show Kd.M (Kd.int .i64) _ _ _ ((aC l0 0).f1) [.int .i64 ((aC l0 0).f1)] from rfl) (dG (show Kd.M (Kd.int .i64) _ _ _ ((aC l0 0).f0) [.int .i64 ((aC l0 0).f0)] from rfl) (dG (show Kd.M (Kd.int .i64) _ _ _ ((aC l0 0).f1) [.int .i64 ((aC l0 0).f1)] from rfl) (kC.none _ _))))))
  intro v110 w7 ho8 hb hg_ hnew_
  clear hg_ hnew_
  (first|rw [← Ny109.out] at ho8|(simp only [Int.reduceToNat] at ho8;rw [← Ny109.out] at ho8))
  have HO111:=aE (Kd.R_lower ho8 (aT (aX HB)))
  replace HB:=aE (aD (aX HB) hb)
  clear hb ho8
  refine hK.out _ _ ⟨(aY HB hw105_0),(aY HB hw105_1),(aY HB hw106_0),(aY HB hw106_1),(aY HB hw107_0),(aY HB hw107_1),(aY HB hw108_0),(aY HB hw108_1)⟩ (fun hHeld=>?_)
  clear hK K
  refine gA ?_
  refine bU ((0,17,3,262143)::[]) ?_
  iterate 1 (first|refine jT HT_ ?_)
  refine aU ?_
  refine eN (cK HT_.out (by kernel_rfl)) ?_
  try go_wp2
  go_loopg [4] k (fun kq v4 w'=>∃ (x3_1:List Int) (x4_1:Int),v4=.int .i64 x4_1∧Aside0 (jI kq l0 x3_1 x4_1=some r)∧Aside0 (kq≤k)∧Aside0 (Kd.R (Kd.int .i64) 3 w' w.heap.size (fun _=>True) v110 x3_1)∧Aside0 (Below w.heap.size w w'))
  case atStart=>exact ⟨(y109),(1),aH,H',⟨Nat.le_refl _⟩,⟨bN HO111⟩,⟨aX HB⟩⟩
  case round =>
   clear H'
   try clear c3
   try clear c4
   try clear c4b0
   try clear c4b1
   try clear hx105_0
   try clear hx105_1
   try clear hx106_0
   try clear hx106_1
   try clear hx107_0
   try clear hx107_1
   try clear hx108_0
   try clear hx108_1
   try clear p105
   try clear p106
   try clear p107
   try clear p108
   try clear q105
   try clear q106
   try clear q107
   try clear q108
   obtain ⟨x3_1,x4_1,rfl,HA,HK1,HO_3,HB⟩:=hrel
   cases gk with
   | zero=>exact absurd HA.out (by simp [jI])
   | succ k1 =>
    have H:=HA.out
    clear HA
    simp only [jI] at H
    rcases eV H with ⟨c9b0,H⟩|⟨c9b0,H⟩
    ·obtain ⟨c10,H⟩:=gQ H
     have c10b0:=decide_eq_true c10
     have c10b1:decide (0<x3_1.length)=true:=decide_eq_true (by omega)
     clear c10
     obtain ⟨c11b0,H⟩:=cV H
     replace H:=eM H
     obtain ⟨t114,A12,H⟩:=H
     obtain ⟨y115,hy115⟩:∃ y_:List Int,y_=(x3_1.set (0:Int).toNat t114):=⟨_,rfl⟩
     first|(with_reducible replace H:=oO hy115 H)|(with_reducible replace H:=oP hy115 H)|rw [← hy115] at H
     have Ny115:=aE hy115
     clear hy115
     obtain ⟨c14,H⟩:=gQ H
     have c14b0:=decide_eq_true c14
     have c14b1:decide (1<x3_1.length)=true:=decide_eq_true (by omega)
     clear c14
     replace H:=eM H
     obtain ⟨t118,A15,H⟩:=H
     obtain ⟨y119,hy119⟩:∃ y_:List Int,y_=(y115.set (1:Int).toNat t118):=⟨_,rfl⟩
     first|(with_reducible replace H:=oO hy119 H)|(with_reducible replace H:=oP hy119 H)|rw [← hy119] at H
     have Ny119:=aE hy119
     clear hy119
     obtain ⟨c17,H⟩:=gQ H
     have c17b0:=decide_eq_true c17
     have c17b1:decide (2<x3_1.length)=true:=decide_eq_true (by omega)
     clear c17
     replace H:=eM H
     obtain ⟨t122,A18,H⟩:=H
     obtain ⟨y123,hy123⟩:∃ y_:List Int,y_=(y119.set (2:Int).toNat t122):=⟨_,rfl⟩
     first|(with_reducible replace H:=oO hy123 H)|(with_reducible replace H:=oP hy123 H)|rw [← hy123] at H
     have Ny123:=aE hy123
     clear hy123
     obtain ⟨c20,H⟩:=gQ H
     have c20b0:=decide_eq_true c20
     have c20b1:decide (3<x3_1.length)=true:=decide_eq_true (by omega)
     clear c20
     replace H:=eM H
     obtain ⟨t126,A21,H⟩:=H
     obtain ⟨y127,hy127⟩:∃ y_:List Int,y_=(y123.set (3:Int).toNat t126):=⟨_,rfl⟩
     first|(with_reducible replace H:=oO hy127 H)|(with_reducible replace H:=oP hy127 H)|rw [← hy127] at H
     have Ny127:=aE hy127
     clear hy127
     have H':=aE H
     clear H
     try go_wp2
     replace HO_3:=aE (gU HO_3.out)
     replace HB:=aE (jK HB.out)
     obtain ⟨Ao24,co24,eo24⟩:=Kd.R_slice HO_3.out
     (first|subst eo24|(injection eo24 with f1_ f2_ f3_;have f4_:=f1_.symm;have f5_:=f3_.symm;clear f1_ f2_ f3_;subst f4_;subst f5_))
     have p112:0≤(0:Int):=(by omega)
     have q112:0<(x3_1.length:Int):=bI
     obtain ⟨ad112,e112,hx112_0⟩:=Kd.at_int (Kd.R_reads' HO_3.out).2.2 0 p112 q112
     cases e112
     have qi112:(0<x3_1.length)=True:=eq_true (by omega)
     (try rw [show ((0:Int)).toNat=0 from rfl] at hx112_0)
     (try rw [Addr.add_zero'] at hx112_0)
     replace p112:=eq_true p112
     replace q112:=eq_true q112
     have p113:0≤(x4_1:Int):=bI
     have q113:x4_1<(l0.length:Int):=bI
     obtain ⟨ad113,e113,hx113_0,hx113_1⟩:=bW HR0.out x4_1 p113 q113
     have hw113_1:=hx113_1
     have hw113_0:=hx113_0
     obtain rfl:ad105=ad113:=(by injection e113)
     replace hx113_0:=aY HB hx113_0
     replace hx113_1:=aY HB hx113_1
     replace p113:=eq_true p113
     replace q113:=eq_true q113
     refine dA (n:=12) (S:=fun w'=>w'.cell? ad112=some (.int .i64 (rd x3_1 0))∧w'.cell? (ad105.add ((x4_1).toNat*2))=some (.int .i64 ((aC l0 x4_1).f0))∧w'.cell? ⟨(ad105.add ((x4_1).toNat*2)).block,(ad105.add ((x4_1).toNat*2)).off+1,none⟩=some (.int .i64 ((aC l0 x4_1).f1))) (ds:=[11]) (bm 12 0) (by kernel_rfl) rfl rfl ⟨hx112_0,(aY HB hw113_0),(aY HB hw113_1)⟩ (fun hHeld=>?_);refine bO CR AH (fun HT_ HW_=>?_)
     generalize wr.drew=w23 at HO_3 HB hx112_0 hx113_0 hx113_1 hHeld ⊢
     refine bU ((0,0,32,1)::(0,1,33,3)::(0,2,34,7)::(0,4,36,23)::(0,5,37,55)::(0,6,38,119)::(0,7,39,247)::(2,3,35,255)::(2,8,40,511)::[]) ?_
     iterate 9 (first|refine jT HT_ ?_|refine pZ HT_ HW_ hHeld ?_)
     refine aU ?_
     refine dQ (i:=9) (N:=some 41) (bm 12 1023) rfl rfl (bJ HT_.out (by kernel_rfl)) (by decide) (fun K hK=>?_)
     refine cN Tryz.func69 #[.int .i64 (rd x3_1 0),.int .i64 ((aC l0 x4_1).f0)] ?_
     with_reducible refine (sJ (rd x3_1 0) ((aC l0 x4_1).f0) t114 _ A12.out).mono ?_
     rintro e w' ⟨rfl,⟨nd,rfl⟩⟩
     refine ⟨_,rfl,?_⟩
     have p13:0≤(0:Int):=(by omega)
     have q13:(0:Int)<((x3_1.length:Int):Int):=bI
     have qi13:(0<x3_1.length)=True:=eq_true (by omega)
     obtain ⟨go13,co13,eo13,gb13,gl13,cl13,HG13⟩:=Kd.R_form HO_3.out (by omega)
     (first|cases eo13|(injection eo13 with ea_ en_ ec_;(first|subst ea_|(injection ea_ with ea_;subst ea_));subst ec_;clear en_))
     have GB13:=aE gb13
     have GG13:=aE HG13
     clear gb13 gl13 HG13
     (first|simp only [pM] at hx112_0|skip)
     obtain ⟨hx13_0,hf13_0⟩:=Kd.R_celln 0 HO_3.out (0:Int) p13 q13
     (try rw [show ((0:Int)).toNat=0 from rfl] at hx13_0)
     (try simp only [Nat.reduceMul,Nat.zero_mul,Nat.zero_add,Nat.reduceAdd] at hx13_0)
     (try rw [show ((0:Int)).toNat=0 from rfl] at hf13_0)
     (try simp only [Nat.reduceMul,Nat.zero_mul,Nat.zero_add,Nat.reduceAdd] at hf13_0)
     replace p13:=eq_true p13
     replace q13:=eq_true q13
     have HP25:=Kd.R_putn HO_3.out (0:Int) t114
     rw [← Ny115.out] at HP25
     have HQ25:=aE HP25
     clear HP25
     refine hK.out _ _ ⟨hHeld.1,(aY HB hw113_0),(aY HB hw113_1)⟩ (fun hHeld=>?_)
     clear hK K
     refine gA ?_
     refine bU ((0,10,42,2047)::[]) ?_
     iterate 1 (first|refine jT HT_ ?_)
     refine aU ?_
     refine BZ (i:=11) (N:=none) (bm 12 4095) rfl rfl (bJ HT_.out (by kernel_rfl)) (by decide) (fun K hK=>?_)
     refine kY (w1:=?_) (by rfl) rfl ?_ ?_
     rotate_left
     ·go_simp
      rfl
     refine hK.out _ _ ?_
     clear hK K
     refine eN (cK HT_.out (by kernel_rfl)) ?_
     try go_wp2
     have n0_:Aside0 (Kd.R (Kd.int .i64) 3 (w23.setCell ⟨go13,0,none⟩ (.int .i64 t114)) w.heap.size (fun _=>True) (.slice (some ⟨go13,0,none⟩) x3_1.length co24) y115):=⟨bN HQ25⟩
     have n1_:Aside0 (Below w.heap.size w (w23.setCell ⟨go13,0,none⟩ (.int .i64 t114))):=⟨gP HB GB13.out⟩
     (try clear HO_3)
     (try clear HB)
     (try rw [show (World.drewN w23 nd).setCell ⟨go13,0,none⟩ (.int .i64 t114)=World.drewN (w23.setCell ⟨go13,0,none⟩ (.int .i64 t114)) nd from rfl])
     generalize (w23.setCell ⟨go13,0,none⟩ (.int .i64 t114))=w26 at n0_ n1_ ⊢
     have HO_3:=n0_
     have HB:=n1_
     clear n0_ n1_
     (try (rw [nI w26];generalize hq_:World.drewN w26 _=w26;have n0_:Aside0 (Kd.R (Kd.int .i64) 3 w26 w.heap.size (fun _=>True) (.slice (some ⟨go13,0,none⟩) x3_1.length co24) y115):=⟨by rw [← hq_];exact (bN HO_3)⟩;have n1_:Aside0 (Below w.heap.size w w26):=⟨by rw [← hq_];exact (aX HB)⟩;clear HO_3 HB hq_;have HO_3:=n0_;have HB:=n1_;clear n0_ n1_))
     replace HO_3:=aE (gU HO_3.out)
     replace HB:=aE (jK HB.out)
     have p116:0≤(1:Int):=(by omega)
     have q116:1<(y115.length:Int):=(by have h_:(1:Int)<((x3_1.length:Int):Int):=bI;first|(have e_:=(Kd.R_reads' HO_3.out).1;omega)|simpa only [Ny115.out,List.length_set] using h_)
     have ql116:((1:Int)<((x3_1.length:Int):Int))=True:=eq_true (bI)
     (try have qn116:(1<x3_1.length)=True:=eq_true (by have h_:(1:Int)<((x3_1.length:Int):Int):=bI;omega))
     obtain ⟨ad116,e116,hx116_0⟩:=Kd.at_int (Kd.R_reads' HO_3.out).2.2 1 p116 q116
     obtain rfl:(⟨go13,0,none⟩:Addr)=ad116:=(by injection e116)
     (first|simp only [pM] at hx116_0|simp only [LX] at hx116_0|simp only [Addr.add,Nat.zero_add] at hx116_0|skip)
     have qi116:(1<y115.length)=True:=eq_true (by omega)
     (try rw [show ((1:Int)).toNat=1 from rfl] at hx116_0)
     replace p116:=eq_true p116
     replace q116:=eq_true q116
     have p117:0≤(x4_1:Int):=bI
     have q117:x4_1<(l0.length:Int):=bI
     obtain ⟨ad117,e117,hx117_0,hx117_1⟩:=bW HR0.out x4_1 p117 q117
     have hw117_1:=hx117_1
     have hw117_0:=hx117_0
     obtain rfl:ad105=ad117:=(by injection e117)
     replace hx117_0:=aY HB hx117_0
     replace hx117_1:=aY HB hx117_1
     replace p117:=eq_true p117
     replace q117:=eq_true q117
     refine dA (n:=12) (S:=fun w'=>w'.cell? ⟨go13,1,none⟩=some (.int .i64 (rd y115 1))∧w'.cell? (ad105.add ((x4_1).toNat*2))=some (.int .i64 ((aC l0 x4_1).f0))∧w'.cell? ⟨(ad105.add ((x4_1).toNat*2)).block,(ad105.add ((x4_1).toNat*2)).off+1,none⟩=some (.int .i64 ((aC l0 x4_1).f1))) (ds:=[11]) (bm 12 0) (by kernel_rfl) rfl rfl ⟨hx116_0,(aY HB hw117_0),(aY HB hw117_1)⟩ (fun hHeld=>?_);refine bO CS BA (fun HT_ HW_=>?_)
     generalize w26.drew=w27 at HO_3 HB HQ25 hx116_0 hx117_0 hx117_1 hHeld ⊢
     refine bU ((0,0,43,1)::(0,1,44,3)::(0,2,45,7)::(0,4,47,23)::(0,5,48,55)::(0,6,49,119)::(0,7,50,247)::(2,3,46,255)::(2,8,51,511)::[]) ?_
     iterate 9 (first|refine jT HT_ ?_|refine pZ HT_ HW_ hHeld ?_)
     refine aU ?_
     refine dQ (i:=9) (N:=some 52) (bm 12 1023) rfl rfl (bJ HT_.out (by kernel_rfl)) (by decide) (fun K hK=>?_)
     refine cN Tryz.func69 #[.int .i64 (rd y115 1),.int .i64 ((aC l0 x4_1).f1)] ?_
     with_reducible refine (sJ (rd y115 1) ((aC l0 x4_1).f1) t118 _ A15.out).mono ?_
     rintro e w' ⟨rfl,⟨nd,rfl⟩⟩
     refine ⟨_,rfl,?_⟩
     have p16:0≤(1:Int):=(by omega)
     have q16:(1:Int)<((x3_1.length:Int):Int):=bI
     have qi16:(1<x3_1.length)=True:=eq_true (by omega)
     obtain ⟨hx16_0,hf16_0⟩:=Kd.R_celln 0 HO_3.out (1:Int) p16 q16
     (try rw [show ((1:Int)).toNat=1 from rfl] at hx16_0)
     (try simp only [Nat.reduceMul,Nat.zero_mul,Nat.zero_add,Nat.reduceAdd] at hx16_0)
     (try rw [show ((1:Int)).toNat=1 from rfl] at hf16_0)
     (try simp only [Nat.reduceMul,Nat.zero_mul,Nat.zero_add,Nat.reduceAdd] at hf16_0)
     replace p16:=eq_true p16
     replace q16:=eq_true q16
     have HP28:=Kd.R_putn HO_3.out (1:Int) t118
     rw [← Ny119.out] at HP28
     have HQ28:=aE HP28
     clear HP28
     refine hK.out _ _ ⟨hHeld.1,(aY HB hw117_0),(aY HB hw117_1)⟩ (fun hHeld=>?_)
     clear hK K
     refine gA ?_
     refine bU ((0,10,53,2047)::[]) ?_
     iterate 1 (first|refine jT HT_ ?_)
     refine aU ?_
     refine BZ (i:=11) (N:=none) (bm 12 4095) rfl rfl (bJ HT_.out (by kernel_rfl)) (by decide) (fun K hK=>?_)
     refine kY (w1:=?_) (by rfl) rfl ?_ ?_
     rotate_left
     ·go_simp
      rfl
     refine hK.out _ _ ?_
     clear hK K
     refine eN (cK HT_.out (by kernel_rfl)) ?_
     try go_wp2
     have n0_:Aside0 (Kd.R (Kd.int .i64) 3 (w27.setCell ⟨go13,1,none⟩ (.int .i64 t118)) w.heap.size (fun _=>True) (.slice (some ⟨go13,0,none⟩) x3_1.length co24) y119):=⟨bN HQ28⟩
     have n1_:Aside0 (Below w.heap.size w (w27.setCell ⟨go13,1,none⟩ (.int .i64 t118))):=⟨gP HB GB13.out⟩
     (try clear HO_3)
     (try clear HB)
     (try rw [show (World.drewN w27 nd).setCell ⟨go13,1,none⟩ (.int .i64 t118)=World.drewN (w27.setCell ⟨go13,1,none⟩ (.int .i64 t118)) nd from rfl])
     generalize (w27.setCell ⟨go13,1,none⟩ (.int .i64 t118))=w29 at n0_ n1_ ⊢
     have HO_3:=n0_
     have HB:=n1_
     clear n0_ n1_
     (try (rw [nI w29];generalize hq_:World.drewN w29 _=w29;have n0_:Aside0 (Kd.R (Kd.int .i64) 3 w29 w.heap.size (fun _=>True) (.slice (some ⟨go13,0,none⟩) x3_1.length co24) y119):=⟨by rw [← hq_];exact (bN HO_3)⟩;have n1_:Aside0 (Below w.heap.size w w29):=⟨by rw [← hq_];exact (aX HB)⟩;clear HO_3 HB hq_;have HO_3:=n0_;have HB:=n1_;clear n0_ n1_))
     replace HO_3:=aE (gU HO_3.out)
     replace HB:=aE (jK HB.out)
     have p120:0≤(2:Int):=(by omega)
     have q120:2<(y119.length:Int):=(by have h_:(2:Int)<((x3_1.length:Int):Int):=bI;first|(have e_:=(Kd.R_reads' HO_3.out).1;omega)|simpa only [Ny115.out,Ny119.out,List.length_set] using h_)
     have ql120:((2:Int)<((x3_1.length:Int):Int))=True:=eq_true (bI)
     (try have qn120:(2<x3_1.length)=True:=eq_true (by have h_:(2:Int)<((x3_1.length:Int):Int):=bI;omega))
     obtain ⟨ad120,e120,hx120_0⟩:=Kd.at_int (Kd.R_reads' HO_3.out).2.2 2 p120 q120
     obtain rfl:(⟨go13,0,none⟩:Addr)=ad120:=(by injection e120)
     (first|simp only [pM] at hx120_0|simp only [LX] at hx120_0|simp only [Addr.add,Nat.zero_add] at hx120_0|skip)
     have qi120:(2<y119.length)=True:=eq_true (by omega)
     (try rw [show ((2:Int)).toNat=2 from rfl] at hx120_0)
     replace p120:=eq_true p120
     replace q120:=eq_true q120
     have p121:0≤(x4_1:Int):=bI
     have q121:x4_1<(l0.length:Int):=bI
     obtain ⟨ad121,e121,hx121_0,hx121_1⟩:=bW HR0.out x4_1 p121 q121
     have hw121_1:=hx121_1
     have hw121_0:=hx121_0
     obtain rfl:ad105=ad121:=(by injection e121)
     replace hx121_0:=aY HB hx121_0
     replace hx121_1:=aY HB hx121_1
     replace p121:=eq_true p121
     replace q121:=eq_true q121
     refine dA (n:=12) (S:=fun w'=>w'.cell? ⟨go13,2,none⟩=some (.int .i64 (rd y119 2))∧w'.cell? (ad105.add ((x4_1).toNat*2))=some (.int .i64 ((aC l0 x4_1).f0))∧w'.cell? ⟨(ad105.add ((x4_1).toNat*2)).block,(ad105.add ((x4_1).toNat*2)).off+1,none⟩=some (.int .i64 ((aC l0 x4_1).f1))) (ds:=[11]) (bm 12 0) (by kernel_rfl) rfl rfl ⟨hx120_0,(aY HB hw121_0),(aY HB hw121_1)⟩ (fun hHeld=>?_);refine bO CT BB (fun HT_ HW_=>?_)
     generalize w29.drew=w30 at HO_3 HB HQ28 hx120_0 hx121_0 hx121_1 hHeld ⊢
     refine bU ((0,0,54,1)::(0,1,55,3)::(0,2,56,7)::(0,4,58,23)::(0,5,59,55)::(0,6,60,119)::(0,7,61,247)::(2,3,57,255)::(2,8,62,511)::[]) ?_
     iterate 9 (first|refine jT HT_ ?_|refine pZ HT_ HW_ hHeld ?_)
     refine aU ?_
     refine dQ (i:=9) (N:=some 63) (bm 12 1023) rfl rfl (bJ HT_.out (by kernel_rfl)) (by decide) (fun K hK=>?_)
     refine cN Tryz.func70 #[.int .i64 (rd y119 2),.int .i64 ((aC l0 x4_1).f0)] ?_
     with_reducible refine (kP (rd y119 2) ((aC l0 x4_1).f0) t122 _ A18.out).mono ?_
     rintro e w' ⟨rfl,⟨nd,rfl⟩⟩
     refine ⟨_,rfl,?_⟩
     have p19:0≤(2:Int):=(by omega)
     have q19:(2:Int)<((x3_1.length:Int):Int):=bI
     have qi19:(2<x3_1.length)=True:=eq_true (by omega)
     obtain ⟨hx19_0,hf19_0⟩:=Kd.R_celln 0 HO_3.out (2:Int) p19 q19
     (try rw [show ((2:Int)).toNat=2 from rfl] at hx19_0)
     (try simp only [Nat.reduceMul,Nat.zero_mul,Nat.zero_add,Nat.reduceAdd] at hx19_0)
     (try rw [show ((2:Int)).toNat=2 from rfl] at hf19_0)
     (try simp only [Nat.reduceMul,Nat.zero_mul,Nat.zero_add,Nat.reduceAdd] at hf19_0)
     replace p19:=eq_true p19
     replace q19:=eq_true q19
     have HP31:=Kd.R_putn HO_3.out (2:Int) t122
     rw [← Ny123.out] at HP31
     have HQ31:=aE HP31
     clear HP31
     refine hK.out _ _ ⟨hHeld.1,(aY HB hw121_0),(aY HB hw121_1)⟩ (fun hHeld=>?_)
     clear hK K
     refine gA ?_
     refine bU ((0,10,64,2047)::[]) ?_
     iterate 1 (first|refine jT HT_ ?_)
     refine aU ?_
     refine BZ (i:=11) (N:=none) (bm 12 4095) rfl rfl (bJ HT_.out (by kernel_rfl)) (by decide) (fun K hK=>?_)
     refine kY (w1:=?_) (by rfl) rfl ?_ ?_
     rotate_left
     ·go_simp
      rfl
     refine hK.out _ _ ?_
     clear hK K
     refine eN (cK HT_.out (by kernel_rfl)) ?_
     try go_wp2
     have n0_:Aside0 (Kd.R (Kd.int .i64) 3 (w30.setCell ⟨go13,2,none⟩ (.int .i64 t122)) w.heap.size (fun _=>True) (.slice (some ⟨go13,0,none⟩) x3_1.length co24) y123):=⟨bN HQ31⟩
     have n1_:Aside0 (Below w.heap.size w (w30.setCell ⟨go13,2,none⟩ (.int .i64 t122))):=⟨gP HB GB13.out⟩
     (try clear HO_3)
     (try clear HB)
     (try rw [show (World.drewN w30 nd).setCell ⟨go13,2,none⟩ (.int .i64 t122)=World.drewN (w30.setCell ⟨go13,2,none⟩ (.int .i64 t122)) nd from rfl])
     generalize (w30.setCell ⟨go13,2,none⟩ (.int .i64 t122))=w32 at n0_ n1_ ⊢
     have HO_3:=n0_
     have HB:=n1_
     clear n0_ n1_
     (try (rw [nI w32];generalize hq_:World.drewN w32 _=w32;have n0_:Aside0 (Kd.R (Kd.int .i64) 3 w32 w.heap.size (fun _=>True) (.slice (some ⟨go13,0,none⟩) x3_1.length co24) y123):=⟨by rw [← hq_];exact (bN HO_3)⟩;have n1_:Aside0 (Below w.heap.size w w32):=⟨by rw [← hq_];exact (aX HB)⟩;clear HO_3 HB hq_;have HO_3:=n0_;have HB:=n1_;clear n0_ n1_))
     replace HO_3:=aE (gU HO_3.out)
     replace HB:=aE (jK HB.out)
     have p124:0≤(3:Int):=(by omega)
     have q124:3<(y123.length:Int):=(by have h_:(3:Int)<((x3_1.length:Int):Int):=bI;first|(have e_:=(Kd.R_reads' HO_3.out).1;omega)|simpa only [Ny115.out,Ny119.out,Ny123.out,List.length_set] using h_)
     have ql124:((3:Int)<((x3_1.length:Int):Int))=True:=eq_true (bI)
     (try have qn124:(3<x3_1.length)=True:=eq_true (by have h_:(3:Int)<((x3_1.length:Int):Int):=bI;omega))
     obtain ⟨ad124,e124,hx124_0⟩:=Kd.at_int (Kd.R_reads' HO_3.out).2.2 3 p124 q124
     obtain rfl:(⟨go13,0,none⟩:Addr)=ad124:=(by injection e124)
     (first|simp only [pM] at hx124_0|simp only [LX] at hx124_0|simp only [Addr.add,Nat.zero_add] at hx124_0|skip)
     have qi124:(3<y123.length)=True:=eq_true (by omega)
     (try rw [show ((3:Int)).toNat=3 from rfl] at hx124_0)
     replace p124:=eq_true p124
     replace q124:=eq_true q124
     have p125:0≤(x4_1:Int):=bI
     have q125:x4_1<(l0.length:Int):=bI
     obtain ⟨ad125,e125,hx125_0,hx125_1⟩:=bW HR0.out x4_1 p125 q125
     have hw125_1:=hx125_1
     have hw125_0:=hx125_0
     obtain rfl:ad105=ad125:=(by injection e125)
     replace hx125_0:=aY HB hx125_0
     replace hx125_1:=aY HB hx125_1
     replace p125:=eq_true p125
     replace q125:=eq_true q125
     refine dA (n:=12) (S:=fun w'=>w'.cell? ⟨go13,3,none⟩=some (.int .i64 (rd y123 3))∧w'.cell? (ad105.add ((x4_1).toNat*2))=some (.int .i64 ((aC l0 x4_1).f0))∧w'.cell? ⟨(ad105.add ((x4_1).toNat*2)).block,(ad105.add ((x4_1).toNat*2)).off+1,none⟩=some (.int .i64 ((aC l0 x4_1).f1))) (ds:=[11]) (bm 12 0) (by kernel_rfl) rfl rfl ⟨hx124_0,(aY HB hw125_0),(aY HB hw125_1)⟩ (fun hHeld=>?_);refine bO BC zF (fun HT_ HW_=>?_)
     generalize w32.drew=w33 at HO_3 HB HQ31 hx124_0 hx125_0 hx125_1 hHeld ⊢
     refine bU ((0,0,65,1)::(0,1,66,3)::(0,2,67,7)::(0,4,69,23)::(0,5,70,55)::(0,6,71,119)::(0,7,72,247)::(2,3,68,255)::(2,8,73,511)::[]) ?_
     iterate 9 (first|refine jT HT_ ?_|refine pZ HT_ HW_ hHeld ?_)
     refine aU ?_
     refine dQ (i:=9) (N:=some 74) (bm 12 1023) rfl rfl (bJ HT_.out (by kernel_rfl)) (by decide) (fun K hK=>?_)
     refine cN Tryz.func70 #[.int .i64 (rd y123 3),.int .i64 ((aC l0 x4_1).f1)] ?_
     with_reducible refine (kP (rd y123 3) ((aC l0 x4_1).f1) t126 _ A21.out).mono ?_
     rintro e w' ⟨rfl,⟨nd,rfl⟩⟩
     refine ⟨_,rfl,?_⟩
     have p22:0≤(3:Int):=(by omega)
     have q22:(3:Int)<((x3_1.length:Int):Int):=bI
     have qi22:(3<x3_1.length)=True:=eq_true (by omega)
     obtain ⟨hx22_0,hf22_0⟩:=Kd.R_celln 0 HO_3.out (3:Int) p22 q22
     (try rw [show ((3:Int)).toNat=3 from rfl] at hx22_0)
     (try simp only [Nat.reduceMul,Nat.zero_mul,Nat.zero_add,Nat.reduceAdd] at hx22_0)
     (try rw [show ((3:Int)).toNat=3 from rfl] at hf22_0)
     (try simp only [Nat.reduceMul,Nat.zero_mul,Nat.zero_add,Nat.reduceAdd] at hf22_0)
     replace p22:=eq_true p22
     replace q22:=eq_true q22
     have HP34:=Kd.R_putn HO_3.out (3:Int) t126
     rw [← Ny127.out] at HP34
     have HQ34:=aE HP34
     clear HP34
     refine hK.out _ _ ⟨hHeld.1,(aY HB hw125_0),(aY HB hw125_1)⟩ (fun hHeld=>?_)
     clear hK K
     refine gA ?_
     refine bU ((0,10,75,2047)::[]) ?_
     iterate 1 (first|refine jT HT_ ?_)
     refine aU ?_
     refine BZ (i:=11) (N:=none) (bm 12 4095) rfl rfl (bJ HT_.out (by kernel_rfl)) (by decide) (fun K hK=>?_)
     refine kY (w1:=?_) (by rfl) rfl ?_ ?_
     rotate_left
     ·go_simp
      rfl
     refine hK.out _ _ ?_
     clear hK K
     refine eN (cK HT_.out (by kernel_rfl)) ?_
     try go_wp2
     go_roundg k1
     case measure=>have:=HK1.out;omega
     case rel=>exact ⟨(y127),(wrap64 (x4_1+1)),aH,H',⟨by have:=HK1.out;omega⟩,⟨bN HQ34⟩,⟨gP HB GB13.out⟩⟩
    ·obtain rfl:=Option.some.inj H
     go_wp2
     go_ret
     exact ⟨_,bP,bN HO_3,aX HB⟩
 ·replace c3:=Bool.eq_false_iff.mpr c3
  subst c3
  rw [if_neg (show ¬ (false=true) by decide)] at H
  obtain ⟨y102,hy102⟩:∃ y_:List Int,y_=(([]:List Int)):=⟨_,rfl⟩
  first|(with_reducible replace H:=oO hy102 H)|(with_reducible replace H:=oP hy102 H)|rw [← hy102] at H
  have Ny102:=aE hy102
  clear hy102
  obtain rfl:=Option.some.inj H
  go_enter Tryz.func42,Tryz.ntmps42
  go_wp2_with (first|((with_reducible refine aJ (f:=23) rfl ?_);refine aV (some 6) Tryz.func23 #[.slice A0 l0.length c0] ?_;(with_reducible refine (cB k _ _ l0 false _ ?side1 ?side2 A2.out).mono ?_);(case side1=>exact kJ HR0.out);(case side2=>exact HC0.out);rintro e w35 ⟨rfl,hb⟩;refine ⟨_,rfl,?_⟩;replace HB:=aE (aD (aX HB) hb);(try clear hb);(try clear hk))|((with_reducible refine aN (N:=8) rfl ?_);refine Kd.R_lit (Kd.int .i64) _ 3 ?hg (N:=8) ?hd (xs:=([]:List Int)) (inner:=[]) (ok:=fun _=>True) (okp:=fun _=>True) ?hr ?hp (fun _ hk=>hk) trivial (Below.refl _ _) (Nat.le_refl _) (by simp) ?_;(case hd=>rfl);(case hg=>rfl);(case hr=>first|(go_simp;done)|(go_simp;rfl));(case hp=>exact (kC.none _ _));intro v103 w36 ho37 hb hg_ hnew_;clear hg_ hnew_;(first|rw [← Ny102.out] at ho37|(simp only [Int.reduceToNat] at ho37;rw [← Ny102.out] at ho37));have HO104:=aE (Kd.R_lower ho37 (aT (aX HB)));replace HB:=aE (aD (aX HB) hb);clear hb ho37))
  go_ret
  exact ⟨_,bP,bN HO104,aX HB⟩
/-! ### spec_l28Inside: function 44 -/
def fJ:Nat→List (cF)→Int→Int→Int→Option (Bool)
 | 0,_,_,_,_=>none
 | k+1,x0,x5,x102000,x102001=>if x5<(x0.length:Int) then (if 0≤x5 then (if (x0.length:Int)=0 then (none) else (if 0≤(Int.tmod (wrap64 (x5+1)) (x0.length:Int)) then (if (Int.tmod (wrap64 (x5+1)) (x0.length:Int))<(x0.length:Int) then ((spec_l2Area.f ((aC x0 x5).f0) ((aC x0 x5).f1) ((aC x0 (Int.tmod (wrap64 (x5+1)) (x0.length:Int))).f0) ((aC x0 (Int.tmod (wrap64 (x5+1)) (x0.length:Int))).f1) x102000 x102001).bind fun t104=>(if t104≤0 then (some false) else (fJ k x0 (wrap64 (x5+1)) x102000 x102001))) else (none)) else (none))) else (none)) else (some true)
def spec_l28Inside.f (k:Nat) (l0:List (cF)) (a1_0:Int) (a1_1:Int):Option (Bool):=fJ k l0 0 a1_0 a1_1
def rK:Bool×List (List Nat×List Nat):=(true,[([],[]),([],[]),([0,1],[0,1]),([2],[2]),([],[]),([],[]),([5],[5]),([],[]),([7],[7]),([6,8],[6,8]),([4,9],[4,9]),([10],[10]),([],[]),([3,11,12],[3,11,12]),([13],[13])])
def zG:List Nat:=[0,0,3,7,0,0,32,0,128,480,1008,2032,0,8191,16383]
theorem oH:iQ .any (iS Tryz.f44 4)=rK:=by kernel_rfl
theorem oA:dM rK.2 zG=true:=by kernel_rfl
set_option maxHeartbeats 8000000 in
set_option maxRecDepth 100000 in
theorem oB (k:Nat) (A0:Option Addr) (c0:Nat) (l0:List (cF)) (a1_0:Int) (a1_1:Int) (r:Bool) (w:World) (hr0:Kd.C jW w A0 l0.length l0) (hc0:l0.length≤c0) (h:spec_l28Inside.f k l0 a1_0 a1_1=some r) :
  Calls Tryz.prog 44 #[.slice A0 l0.length c0,.agg #[.int .i64 a1_0,.int .i64 a1_1]] w fun e w'=>e=.returned (.bool r)∧Below w.heap.size w w':=by
 have hu28:=Tryz.underlying28
 have HR0:=aE hr0
 have HC0:=aE hc0
 clear hr0 hc0
 have HB:=aE (Below.refl w.heap.size w)
 unfold spec_l28Inside.f at h
 have H:=h
 clear h
 have H':=aE H
 clear H
 go_enter Tryz.func44,Tryz.ntmps44
 go_wp2_with (first|((with_reducible refine aN (N:=3) rfl ?_);refine bV (N:=3) #[.int .i64 a1_0,.int .i64 a1_1] 28 ?_;intro gb101 hg w3 hbox hb;have BK101:=aE (hbox);have GW101:=aE ((dX HB hg));have GE101:=aE ((dX HB hg));replace HB:=aE (aD (aX HB) hb);clear hb hbox hg))
 go_loopg [5] k (fun kq v5 w'=>∃ (x5_1:Int),v5=.int .i64 x5_1∧Aside0 (fJ kq l0 x5_1 a1_0 a1_1=some r)∧Aside0 (kq≤k)∧Aside0 (w'.heap[gb101]? = some (.cells #[.int .i64 a1_0,.int .i64 a1_1] 28 (0,0)))∧Aside0 (Below w.heap.size w w'))
 case atStart=>exact ⟨(0),aH,H',⟨Nat.le_refl _⟩,⟨fO BK101⟩,⟨aX HB⟩⟩
 case round =>
  clear H'
  obtain ⟨x5_1,rfl,HA,HK1,BK101,HB⟩:=hrel
  cases gk with
  | zero=>exact absurd HA.out (by simp [fJ])
  | succ k1 =>
   have H:=HA.out
   clear HA
   simp only [fJ] at H
   rcases eV H with ⟨c4b0,H⟩|⟨c4b0,H⟩
   ·obtain ⟨c5b0,H⟩:=cV H
    obtain ⟨c6,H⟩:=JQ H
    have c6b0:((l0.length:Int)==0)=false:=beq_eq_false_iff_ne.mpr c6
    have c6b1:((l0.length:Int) != 0)=true:=bne_iff_ne.mpr c6
    have c6b2:¬ (l0=[]):=fun h_=>c6 (by rw [h_];rfl)
    obtain ⟨ji7,hji7⟩:∃ j_:Int,(Int.tmod (wrap64 (x5_1+1)) (l0.length:Int))=j_:=⟨_,rfl⟩
    replace H:(if 0≤(ji7) then (if (ji7)<(l0.length:Int) then ((spec_l2Area.f ((aC l0 x5_1).f0) ((aC l0 x5_1).f1) ((aC l0 (ji7)).f0) ((aC l0 (ji7)).f1) a1_0 a1_1).bind fun t104=>(if t104≤0 then (some false) else (fJ k1 l0 (wrap64 (x5_1+1)) a1_0 a1_1))) else (none)) else (none))=some r:=by first|(rw [hji7] at H;exact H)|(simp only [hji7] at H ⊢;exact H)
    obtain ⟨c8b0,H⟩:=cV H
    obtain ⟨c9b0,H⟩:=cV H
    replace H:=eM H
    obtain ⟨t104,A10,H⟩:=H
    rcases eV H with ⟨c11b0,H⟩|⟨c11b0,H⟩
    ·obtain rfl:=Option.some.inj H
     try go_wp2
     replace BK101:=aE (aI BK101.out)
     replace HB:=aE (jK HB.out)
     have p102:0≤(x5_1:Int):=bI
     have q102:x5_1<(l0.length:Int):=bI
     obtain ⟨ad102,e102,hx102_0,hx102_1⟩:=bW HR0.out x5_1 p102 q102
     have hw102_1:=hx102_1
     have hw102_0:=hx102_0
     cases e102
     replace hx102_0:=aY HB hx102_0
     replace hx102_1:=aY HB hx102_1
     replace p102:=eq_true p102
     replace q102:=eq_true q102
     have p103:0≤((ji7):Int):=bI
     have q103:(ji7)<(l0.length:Int):=bI
     obtain ⟨ad103,e103,hx103_0,hx103_1⟩:=bW HR0.out (ji7) p103 q103
     have hw103_1:=hx103_1
     have hw103_0:=hx103_0
     obtain rfl:ad102=ad103:=(by injection e103)
     replace hx103_0:=aY HB hx103_0
     replace hx103_1:=aY HB hx103_1
     replace p103:=eq_true p103
     replace q103:=eq_true q103
     refine dA (n:=15) (S:=fun w'=>w'.cell? ⟨gb101,0,none⟩=some (.int .i64 a1_0)∧w'.cell? ⟨gb101,1,none⟩=some (.int .i64 a1_1)∧w'.cell? (ad102.add ((x5_1).toNat*2))=some (.int .i64 ((aC l0 x5_1).f0))∧w'.cell? ⟨(ad102.add ((x5_1).toNat*2)).block,(ad102.add ((x5_1).toNat*2)).off+1,none⟩=some (.int .i64 ((aC l0 x5_1).f1))∧w'.cell? (ad102.add (((ji7)).toNat*2))=some (.int .i64 ((aC l0 (ji7)).f0))∧w'.cell? ⟨(ad102.add (((ji7)).toNat*2)).block,(ad102.add (((ji7)).toNat*2)).off+1,none⟩=some (.int .i64 ((aC l0 (ji7)).f1))) (ds:=[]) (bm 15 0) (by kernel_rfl) rfl rfl ⟨aW BK101 0,aW BK101 1,(aY HB hw102_0),(aY HB hw102_1),(aY HB hw103_0),(aY HB hw103_1)⟩ (fun hHeld=>?_);refine bO oH oA (fun HT_ HW_=>?_)
     generalize wr.drew=w12 at BK101 HB hx102_0 hx102_1 hx103_0 hx103_1 hHeld ⊢
     refine bU ((0,0,12,1)::(0,1,13,3)::(0,2,14,7)::(0,4,16,23)::(0,5,17,55)::(0,6,18,119)::(0,7,19,247)::(0,8,20,503)::(0,9,21,1015)::(0,10,22,2039)::(2,3,15,2047)::(2,11,23,4095)::(2,12,24,8191)::[]) ?_
     iterate 13 (first|refine jT HT_ ?_|refine pZ HT_ HW_ hHeld ?_)
     refine aU ?_
     refine dQ (i:=13) (N:=some 25) (bm 15 16383) rfl rfl (bJ HT_.out (by kernel_rfl)) (by decide) (fun K hK=>?_)
     refine yR Tryz.func53 (by kernel_rfl) rfl #[.agg #[.int .i64 ((aC l0 x5_1).f0),.int .i64 ((aC l0 x5_1).f1)],.agg #[.int .i64 ((aC l0 (ji7)).f0),.int .i64 ((aC l0 (ji7)).f1)],.agg #[.int .i64 a1_0,.int .i64 a1_1]] (by rfl) rfl rfl (by (try simp only [List.map_toArray,List.map_cons,List.map_nil]);first|done|(simp only [hji7];rfl)|rfl|(simp only [List.length_drop,List.length_take];rfl)) ?_
     with_reducible refine (gX ((aC l0 x5_1).f0) ((aC l0 x5_1).f1) ((aC l0 (ji7)).f0) ((aC l0 (ji7)).f1) a1_0 a1_1 t104 _ A10.out).mono ?_
     rintro e w13 ⟨rfl,hb⟩
     refine ⟨_,rfl,?_⟩
     replace BK101:=aE (bB BK101 hb)
     replace HB:=aE (aD (aX HB) hb)
     (try clear hb)
     refine hK.out _ _ ⟨aW BK101 0,aW BK101 1,(aY HB hw102_0),(aY HB hw102_1),(aY HB hw103_0),(aY HB hw103_1)⟩ (fun hHeld=>?_)
     clear hK K
     refine gA ?_
     refine bU ((0,14,26,32767)::[]) ?_
     iterate 1 (first|refine jT HT_ ?_)
     refine aU ?_
     refine eN (cK HT_.out (by kernel_rfl)) ?_
     try go_wp2
     go_ret
     exact ⟨by first|rfl|(simp [cG,cI] <;> rfl)|(simp only [← hji7];first|rfl|(simp [cG,cI] <;> rfl))|(simp [*,cG,cI] <;> rfl),aX HB⟩
    ·have H':=aE H
     clear H
     try go_wp2
     replace BK101:=aE (aI BK101.out)
     replace HB:=aE (jK HB.out)
     have p102:0≤(x5_1:Int):=bI
     have q102:x5_1<(l0.length:Int):=bI
     obtain ⟨ad102,e102,hx102_0,hx102_1⟩:=bW HR0.out x5_1 p102 q102
     have hw102_1:=hx102_1
     have hw102_0:=hx102_0
     cases e102
     replace hx102_0:=aY HB hx102_0
     replace hx102_1:=aY HB hx102_1
     replace p102:=eq_true p102
     replace q102:=eq_true q102
     have p103:0≤((ji7):Int):=bI
     have q103:(ji7)<(l0.length:Int):=bI
     obtain ⟨ad103,e103,hx103_0,hx103_1⟩:=bW HR0.out (ji7) p103 q103
     have hw103_1:=hx103_1
     have hw103_0:=hx103_0
     obtain rfl:ad102=ad103:=(by injection e103)
     replace hx103_0:=aY HB hx103_0
     replace hx103_1:=aY HB hx103_1
     replace p103:=eq_true p103
     replace q103:=eq_true q103
     refine dA (n:=15) (S:=fun w'=>w'.cell? ⟨gb101,0,none⟩=some (.int .i64 a1_0)∧w'.cell? ⟨gb101,1,none⟩=some (.int .i64 a1_1)∧w'.cell? (ad102.add ((x5_1).toNat*2))=some (.int .i64 ((aC l0 x5_1).f0))∧w'.cell? ⟨(ad102.add ((x5_1).toNat*2)).block,(ad102.add ((x5_1).toNat*2)).off+1,none⟩=some (.int .i64 ((aC l0 x5_1).f1))∧w'.cell? (ad102.add (((ji7)).toNat*2))=some (.int .i64 ((aC l0 (ji7)).f0))∧w'.cell? ⟨(ad102.add (((ji7)).toNat*2)).block,(ad102.add (((ji7)).toNat*2)).off+1,none⟩=some (.int .i64 ((aC l0 (ji7)).f1))) (ds:=[]) (bm 15 0) (by kernel_rfl) rfl rfl ⟨aW BK101 0,aW BK101 1,(aY HB hw102_0),(aY HB hw102_1),(aY HB hw103_0),(aY HB hw103_1)⟩ (fun hHeld=>?_);refine bO oH oA (fun HT_ HW_=>?_)
     generalize wr.drew=w14 at BK101 HB hx102_0 hx102_1 hx103_0 hx103_1 hHeld ⊢
     refine bU ((0,0,12,1)::(0,1,13,3)::(0,2,14,7)::(0,4,16,23)::(0,5,17,55)::(0,6,18,119)::(0,7,19,247)::(0,8,20,503)::(0,9,21,1015)::(0,10,22,2039)::(2,3,15,2047)::(2,11,23,4095)::(2,12,24,8191)::[]) ?_
     iterate 13 (first|refine jT HT_ ?_|refine pZ HT_ HW_ hHeld ?_)
     refine aU ?_
     refine dQ (i:=13) (N:=some 25) (bm 15 16383) rfl rfl (bJ HT_.out (by kernel_rfl)) (by decide) (fun K hK=>?_)
     refine yR Tryz.func53 (by kernel_rfl) rfl #[.agg #[.int .i64 ((aC l0 x5_1).f0),.int .i64 ((aC l0 x5_1).f1)],.agg #[.int .i64 ((aC l0 (ji7)).f0),.int .i64 ((aC l0 (ji7)).f1)],.agg #[.int .i64 a1_0,.int .i64 a1_1]] (by rfl) rfl rfl (by (try simp only [List.map_toArray,List.map_cons,List.map_nil]);first|done|(simp only [hji7];rfl)|rfl|(simp only [List.length_drop,List.length_take];rfl)) ?_
     with_reducible refine (gX ((aC l0 x5_1).f0) ((aC l0 x5_1).f1) ((aC l0 (ji7)).f0) ((aC l0 (ji7)).f1) a1_0 a1_1 t104 _ A10.out).mono ?_
     rintro e w15 ⟨rfl,hb⟩
     refine ⟨_,rfl,?_⟩
     replace BK101:=aE (bB BK101 hb)
     replace HB:=aE (aD (aX HB) hb)
     (try clear hb)
     refine hK.out _ _ ⟨aW BK101 0,aW BK101 1,(aY HB hw102_0),(aY HB hw102_1),(aY HB hw103_0),(aY HB hw103_1)⟩ (fun hHeld=>?_)
     clear hK K
     refine gA ?_
     refine bU ((0,14,26,32767)::[]) ?_
     iterate 1 (first|refine jT HT_ ?_)
     refine aU ?_
     refine eN (cK HT_.out (by kernel_rfl)) ?_
     try go_wp2
     go_roundg k1
     case measure=>have:=HK1.out;omega
     case rel=>exact ⟨(wrap64 (x5_1+1)),aH,H',⟨by have:=HK1.out;omega⟩,⟨fO BK101⟩,⟨aX HB⟩⟩
   ·obtain rfl:=Option.some.inj H
    go_wp2
    go_ret
    exact ⟨bP,aX HB⟩
/-! ### spec_InnerPoints: function 12 -/
mutual
def dS:Nat→Int→List (cF)→List Int→Int→Option (Int)
 | 0,_,_,_,_=>none
 | k+1,x3,x4,x5,x6=>if 2<(x5.length:Int) then (if x6≤(rd x5 2) then (if 1<(x5.length:Int) then (dT k x3 x4 x5 x6 (rd x5 1)) else (none)) else (some x3)) else (none)
def dT:Nat→Int→List (cF)→List Int→Int→Int→Option (Int)
 | 0,_,_,_,_,_=>none
 | k+1,x3,x4,x5,x6,x7=>if 3<(x5.length:Int) then (if x7≤(rd x5 3) then ((spec_l28Inside.f k x4 x6 x7).bind fun t112=>((spec_l1Bit.f t112).bind fun t113=>(dT k (wrap64 (x3+t113)) x4 x5 x6 (wrap64 (x7+1))))) else (dS k x3 x4 x5 (wrap64 (x6+1)))) else (none)
end
def spec_InnerPoints.f (k:Nat) (l0:List (cF)):Option (Int):=(spec_ArePoints.f k l0).bind fun t101=>(if t101=true then ((spec_l28Hull.f k l0).bind fun t102=>((spec_BoxOf.f k l0).bind fun t105=>(if 0<(t105.length:Int) then (dS k 0 t102 t105 (rd t105 0)) else (none)))) else (some (-1)))
set_option maxHeartbeats 8000000 in
set_option maxRecDepth 100000 in
theorem tE (k : Nat) (A0 : Option Addr) (c0 : Nat) (l0 : List (cF)) (r : Int) (w : World) (hr0 : Kd.C jW w A0 l0.length l0) (hc0 : l0.length ≤ c0) (h : spec_InnerPoints.f k l0 = some r) :
  Calls Tryz.prog 12 #[.slice A0 l0.length c0] w fun e w'=>e=.returned (.int .i64 r)∧Below w.heap.size w w':=by
 have hu28:=Tryz.underlying28
 have HR0:=aE hr0
 have HC0:=aE hc0
 clear hr0 hc0
 have HB:=aE (Below.refl w.heap.size w)
 unfold spec_InnerPoints.f at h
 have H:=h
 clear h
 replace H:=eM H
 obtain ⟨t101,A2,H⟩:=H
 by_cases c3:t101=true
 ·subst c3
  rw [if_pos rfl] at H
  replace H:=eM H
  obtain ⟨t102,A4,H⟩:=H
  replace H:=eM H
  obtain ⟨t105,A5,H⟩:=H
  obtain ⟨c6,H⟩:=gQ H
  have c6b0:=decide_eq_true c6
  have c6b1:decide (0<t105.length)=true:=decide_eq_true (by omega)
  clear c6
  have H':=aE H
  clear H
  go_enter Tryz.func12,Tryz.ntmps12
  go_wp2_with (first|((with_reducible refine aJ (f:=23) rfl ?_);refine aV (some 9) Tryz.func23 #[.slice A0 l0.length c0] ?_;(with_reducible refine (cB k _ _ l0 true _ ?side1 ?side2 A2.out).mono ?_);(case side1=>exact kJ HR0.out);(case side2=>exact HC0.out);rintro e w7 ⟨rfl,hb⟩;refine ⟨_,rfl,?_⟩;replace HB:=aE (aD (aX HB) hb);(try clear hb))|((with_reducible refine aJ (f:=41) rfl ?_);refine aV (some 12) Tryz.func41 #[.slice A0 l0.length c0] ?_;(with_reducible refine (mE k _ _ l0 t102 _ ?side1 ?side2 A4.out).mono ?_);(case side1=>exact kJ (Kd.C_below HR0.out HB.out));(case side2=>exact HC0.out);rintro e w8 ⟨v103,rfl,ho0,hb⟩;refine ⟨_,rfl,?_⟩;have HO104:=aE (Kd.R_lower ho0 (aT (aX HB)));replace HB:=aE (aD (aX HB) hb);(try clear hb);(try clear ho0))|((with_reducible refine aJ (f:=42) rfl ?_);refine aV (some 14) Tryz.func42 #[.slice A0 l0.length c0] ?_;(with_reducible refine (BD k _ _ l0 t105 _ ?side1 ?side2 A5.out).mono ?_);(case side1=>exact kJ (Kd.C_below HR0.out HB.out));(case side2=>exact HC0.out);rintro e w9 ⟨v106,rfl,ho0,hb⟩;refine ⟨_,rfl,?_⟩;replace HO104:=aE (Kd.R_below (bN HO104) hb);have HO107:=aE (Kd.R_lower ho0 (aT (aX HB)));replace HB:=aE (aD (aX HB) hb);(try clear hb);(try clear ho0);obtain ⟨Ao10,co10,eo10⟩:=Kd.R_slice HO107.out;subst eo10;have p108:0≤(0:Int):=(by omega);have q108:0<(t105.length:Int):=bI;obtain ⟨ad108,e108,hx108_0⟩:=Kd.at_int (Kd.R_reads' HO107.out).2.2 0 p108 q108;cases e108;have qi108:(0<t105.length)=True:=eq_true (by omega);(try rw [show ((0:Int)).toNat=0 from rfl] at hx108_0);(try rw [Addr.add_zero'] at hx108_0);replace p108:=eq_true p108;replace q108:=eq_true q108))
  go_loopg [3,6] k (fun kq v3 v6 w'=>∃ (x3_1:Int) (x6_1:Int),v3=.int .i64 x3_1∧v6=.int .i64 x6_1∧Aside0 (dS kq x3_1 t102 t105 x6_1=some r)∧Aside0 (kq≤k)∧Aside0 (Kd.R jW 28 w' w.heap.size (fun _=>True) v103 t102)∧Aside0 (Kd.R (Kd.int .i64) 3 w' w.heap.size (fun _=>True) (.slice (some ad108) t105.length co10) t105)∧Aside0 (Below w.heap.size w w'))
  case atStart=>exact ⟨(0),(rd t105 0),aH,aH,H',⟨Nat.le_refl _⟩,⟨bN HO104⟩,⟨bN HO107⟩,⟨aX HB⟩⟩
  case round =>
   clear H'
   try clear c3
   try clear c6
   try clear c6b0
   try clear c6b1
   try clear hx108_0
   try clear p108
   try clear q108
   obtain ⟨x3_1,x6_1,rfl,rfl,HA,HK1,HO_4,HO_5,HB⟩:=hrel
   cases gk with
   | zero=>exact absurd HA.out (by simp [dS])
   | succ k1 =>
    have H:=HA.out
    clear HA
    simp only [dS] at H
    obtain ⟨c11,H⟩:=gQ H
    have c11b0:=decide_eq_true c11
    have c11b1:decide (2<t105.length)=true:=decide_eq_true (by omega)
    clear c11
    rcases eV H with ⟨c12b0,H⟩|⟨c12b0,H⟩
    ·obtain ⟨c13,H⟩:=gQ H
     have c13b0:=decide_eq_true c13
     have c13b1:decide (1<t105.length)=true:=decide_eq_true (by omega)
     clear c13
     have H':=aE H
     clear H
     have p109:0≤(2:Int):=(by omega)
     have q109:2<(t105.length:Int):=bI
     obtain ⟨ad109,e109,hx109_0⟩:=Kd.at_int (Kd.R_reads' HO_5.out).2.2 2 p109 q109
     obtain rfl:ad108=ad109:=(by injection e109)
     (try simp only [show (2:Int).toNat=2 from rfl,Nat.reduceMul,Nat.reduceEqDiff,Go.Addr.add,↓reduceIte] at hx109_0)
     have qi109:(2<t105.length)=True:=eq_true (by omega)
     (try rw [show ((2:Int)).toNat=2 from rfl] at hx109_0)
     replace p109:=eq_true p109
     replace q109:=eq_true q109
     have p110:0≤(1:Int):=(by omega)
     have q110:1<(t105.length:Int):=bI
     obtain ⟨ad110,e110,hx110_0⟩:=Kd.at_int (Kd.R_reads' HO_5.out).2.2 1 p110 q110
     obtain rfl:ad108=ad110:=(by injection e110)
     (try simp only [show (1:Int).toNat=1 from rfl,Nat.reduceMul,Nat.reduceEqDiff,Go.Addr.add,↓reduceIte] at hx110_0)
     have qi110:(1<t105.length)=True:=eq_true (by omega)
     (try rw [show ((1:Int)).toNat=1 from rfl] at hx110_0)
     replace p110:=eq_true p110
     replace q110:=eq_true q110
     go_wp2
     go_loopg [3,7] k1 (fun kq v3 v7 w'=>∃ (x3_2:Int) (x7_2:Int),v3=.int .i64 x3_2∧v7=.int .i64 x7_2∧Aside0 (dT kq x3_2 t102 t105 x6_1 x7_2=some r)∧Aside0 (kq≤k1)∧Aside0 (Kd.R jW 28 w' w.heap.size (fun _=>True) v103 t102)∧Aside0 (Kd.R (Kd.int .i64) 3 w' w.heap.size (fun _=>True) (.slice (some ad108) t105.length co10) t105)∧Aside0 (Below w.heap.size w w'))
     case atStart=>exact ⟨(x3_1),(rd t105 1),aH,aH,H',⟨Nat.le_refl _⟩,⟨bN HO_4⟩,⟨bN HO_5⟩,⟨aX HB⟩⟩
     case round =>
      clear H'
      try clear c3
      try clear c6
      try clear c6b0
      try clear c6b1
      try clear c11
      try clear c11b0
      try clear c11b1
      try clear c12b0
      try clear c13
      try clear c13b0
      try clear c13b1
      try clear hx108_0
      try clear hx109_0
      try clear hx110_0
      try clear p108
      try clear p109
      try clear p110
      try clear q108
      try clear q109
      try clear q110
      obtain ⟨x3_2,x7_2,rfl,rfl,HA,HK2,HO_4,HO_5,HB⟩:=hrel
      cases gk with
      | zero=>exact absurd HA.out (by simp [dT])
      | succ k2 =>
       have H:=HA.out
       clear HA
       simp only [dT] at H
       obtain ⟨c14,H⟩:=gQ H
       have c14b0:=decide_eq_true c14
       have c14b1:decide (3<t105.length)=true:=decide_eq_true (by omega)
       clear c14
       rcases eV H with ⟨c15b0,H⟩|⟨c15b0,H⟩
       ·replace H:=DB H
        obtain ⟨t112,A160,H⟩:=H
        have A16:=aE A160
        clear A160
        replace H:=eM H
        obtain ⟨t113,A17,H⟩:=H
        have H':=aE H
        clear H
        have p111:0≤(3:Int):=(by omega)
        have q111:3<(t105.length:Int):=bI
        obtain ⟨ad111,e111,hx111_0⟩:=Kd.at_int (Kd.R_reads' HO_5.out).2.2 3 p111 q111
        obtain rfl:ad108=ad111:=(by injection e111)
        (try simp only [show (3:Int).toNat=3 from rfl,Nat.reduceMul,Nat.reduceEqDiff,Go.Addr.add,↓reduceIte] at hx111_0)
        have qi111:(3<t105.length)=True:=eq_true (by omega)
        (try rw [show ((3:Int)).toNat=3 from rfl] at hx111_0)
        replace p111:=eq_true p111
        replace q111:=eq_true q111
        obtain ⟨Ao18,co18,eo18⟩:=Kd.R_slice HO_4.out
        subst eo18
        go_wp2_with (first|((with_reducible refine aJ (f:=44) rfl ?_);refine aV (some 40) Tryz.func44 #[.slice Ao18 t102.length co18,.agg #[.int .i64 x6_1,.int .i64 x7_2]] ?_;(with_reducible refine (oB k2 _ _ t102 x6_1 x7_2 t112 _ ?side1 ?side2 A16.out).mono ?_);(case side1=>exact kJ (Kd.R_reads' HO_4.out).2.2);(case side2=>exact (Kd.R_reads' HO_4.out).2.1);rintro e w19 ⟨rfl,hb⟩;refine ⟨_,rfl,?_⟩;replace HO_4:=aE (Kd.R_below (bN HO_4) hb);replace HO_5:=aE (Kd.R_below (bN HO_5) hb);replace HB:=aE (aD (aX HB) hb);(try clear hb))|((with_reducible refine aJ (f:=43) rfl ?_);refine aV (some 41) Tryz.func43 #[.bool t112] ?_;(with_reducible refine (rH t112 t113 _ A17.out).mono ?_);rintro e w' ⟨rfl,⟨nd,rfl⟩⟩;refine ⟨_,rfl,?_⟩))
        go_roundg k2
        case measure=>have:=HK1.out;have:=HK2.out;omega
        case rel=>exact ⟨(wrap64 (x3_2+t113)),(wrap64 (x7_2+1)),aH,aH,H',⟨by have:=HK1.out;have:=HK2.out;omega⟩,⟨bN HO_4⟩,⟨bN HO_5⟩,⟨aX HB⟩⟩
       ·have H':=aE H
        clear H
        have p111:0≤(3:Int):=(by omega)
        have q111:3<(t105.length:Int):=bI
        obtain ⟨ad111,e111,hx111_0⟩:=Kd.at_int (Kd.R_reads' HO_5.out).2.2 3 p111 q111
        obtain rfl:ad108=ad111:=(by injection e111)
        (try simp only [show (3:Int).toNat=3 from rfl,Nat.reduceMul,Nat.reduceEqDiff,Go.Addr.add,↓reduceIte] at hx111_0)
        have qi111:(3<t105.length)=True:=eq_true (by omega)
        (try rw [show ((3:Int)).toNat=3 from rfl] at hx111_0)
        replace p111:=eq_true p111
        replace q111:=eq_true q111
        go_wp2
        go_roundg k2
        case measure=>have:=HK1.out;have:=HK2.out;omega
        case rel=>exact ⟨(x3_2),(wrap64 (x6_1+1)),aH,aH,H',⟨by have:=HK1.out;have:=HK2.out;omega⟩,⟨bN HO_4⟩,⟨bN HO_5⟩,⟨aX HB⟩⟩
    ·obtain rfl:=Option.some.inj H
     have p109:0≤(2:Int):=(by omega)
     have q109:2<(t105.length:Int):=bI
     obtain ⟨ad109,e109,hx109_0⟩:=Kd.at_int (Kd.R_reads' HO_5.out).2.2 2 p109 q109
     obtain rfl:ad108=ad109:=(by injection e109)
     (try simp only [show (2:Int).toNat=2 from rfl,Nat.reduceMul,Nat.reduceEqDiff,Go.Addr.add,↓reduceIte] at hx109_0)
     have qi109:(2<t105.length)=True:=eq_true (by omega)
     (try rw [show ((2:Int)).toNat=2 from rfl] at hx109_0)
     replace p109:=eq_true p109
     replace q109:=eq_true q109
     go_wp2
     go_ret
     exact ⟨bP,aX HB⟩
 ·replace c3:=Bool.eq_false_iff.mpr c3
  subst c3
  rw [if_neg (show ¬ (false=true) by decide)] at H
  obtain rfl:=Option.some.inj H
  go_enter Tryz.func12,Tryz.ntmps12
  go_wp2_with (first|((with_reducible refine aJ (f:=23) rfl ?_);refine aV (some 9) Tryz.func23 #[.slice A0 l0.length c0] ?_;(with_reducible refine (cB k _ _ l0 false _ ?side1 ?side2 A2.out).mono ?_);(case side1=>exact kJ HR0.out);(case side2=>exact HC0.out);rintro e w20 ⟨rfl,hb⟩;refine ⟨_,rfl,?_⟩;replace HB:=aE (aD (aX HB) hb);(try clear hb)))
  go_ret
  exact ⟨bP,aX HB⟩
/-! ### spec_l24Gcd: function 48 -/
def iT:Nat→Int→Int→Option (Int)
 | 0,_,_=>none
 | k+1,x0,x1=>if x1=0 then ((spec_l1Max.f x0 (wrap64 (-x0))).bind fun t101=>(some t101)) else (iT k x1 (Int.tmod x0 x1))
def spec_l24Gcd.f (k:Nat) (a0:Int) (a1:Int):Option (Int):=iT k a0 a1
set_option maxHeartbeats 8000000 in
set_option maxRecDepth 100000 in
theorem zI (k:Nat) (a0:Int) (a1:Int) (r:Int) (w:World) (h:spec_l24Gcd.f k a0 a1=some r) :
  Calls Tryz.prog 48 #[.int .i64 a0,.int .i64 a1] w fun e w'=>e=.returned (.int .i64 r)∧gH w w':=by
 unfold spec_l24Gcd.f at h
 have H:=h
 clear h
 have H':=aE H
 clear H
 go_enter Tryz.func48,Tryz.ntmps48
 go_wp2
 go_loopg [0,1] k (fun kq v0 v1 w'=>∃ (x0_1:Int) (x1_1:Int),v0=.int .i64 x0_1∧v1=.int .i64 x1_1∧Aside0 (iT kq x0_1 x1_1=some r)∧Aside0 (kq≤k)∧gH w w')
 case atStart=>exact ⟨(a0),(a1),aH,aH,H',⟨Nat.le_refl _⟩,by repeat (first|exact gH.refl _|apply bF)⟩
 case round =>
  clear H'
  obtain ⟨x0_1,x1_1,rfl,rfl,HA,HK1,⟨m1,rfl⟩⟩:=hrel
  cases gk with
  | zero=>exact absurd HA.out (by simp [iT])
  | succ k1 =>
   have H:=HA.out
   clear HA
   simp only [iT] at H
   rcases jE H with ⟨c3,H⟩|⟨c3,H⟩
   ·have c3b0:(x1_1==0)=true:=beq_iff_eq.mpr c3
    have c3b1:(x1_1 != 0)=false:=bne_eq_false_iff_eq.mpr c3
    clear c3
    replace H:=eM H
    obtain ⟨t101,A4,H⟩:=H
    obtain rfl:=Option.some.inj H
    go_wp2_with (first|((with_reducible refine aJ (f:=70) rfl ?_);refine aV (some 16) Tryz.func70 #[.int .i64 x0_1,.int .i64 (wrap64 (-x0_1))] ?_;(with_reducible refine (kP x0_1 (wrap64 (-x0_1)) t101 _ A4.out).mono ?_);rintro e w' ⟨rfl,⟨nd,rfl⟩⟩;refine ⟨_,rfl,?_⟩))
    go_ret
    exact ⟨aH,by repeat (first|exact gH.refl _|apply bF)⟩
   ·have c3b0:(x1_1==0)=false:=beq_eq_false_iff_ne.mpr c3
    have c3b1:(x1_1 != 0)=true:=bne_iff_ne.mpr c3
    have H':=aE H
    clear H
    go_wp2
    go_roundg k1
    case measure=>have:=HK1.out;omega
    case rel=>exact ⟨(x1_1),(Int.tmod x0_1 x1_1),aH,aH,H',⟨by have:=HK1.out;omega⟩,by repeat (first|exact gH.refl _|apply bF)⟩
/-! ### spec_OnEdge: function 15 -/
def spec_OnEdge.f (k:Nat) (a0_0:Int) (a0_1:Int) (a1_0:Int) (a1_1:Int):Option (Int):=(spec_l2Fits.f a0_0 a0_1 1000).bind fun t103=>(if t103=true then ((spec_l2Fits.f a1_0 a1_1 1000).bind fun t104=>(if t104=true then ((spec_l24Gcd.f k (wrap64 (a1_0-a0_0)) (wrap64 (a1_1-a0_1))).bind fun t105=>(some t105)) else (some (-1)))) else (some (-1)))
set_option maxHeartbeats 8000000 in
set_option maxRecDepth 100000 in
theorem rL (k:Nat) (a0_0:Int) (a0_1:Int) (a1_0:Int) (a1_1:Int) (r:Int) (w:World) (h:spec_OnEdge.f k a0_0 a0_1 a1_0 a1_1=some r) :
  Calls Tryz.prog 15 #[.agg #[.int .i64 a0_0,.int .i64 a0_1],.agg #[.int .i64 a1_0,.int .i64 a1_1]] w fun e w'=>e=.returned (.int .i64 r)∧Below w.heap.size w w':=by
 have hu28:=Tryz.underlying28
 have HB:=aE (Below.refl w.heap.size w)
 unfold spec_OnEdge.f at h
 have H:=h
 clear h
 replace H:=eM H
 obtain ⟨t103,A3,H⟩:=H
 by_cases c4:t103=true
 ·subst c4
  rw [if_pos rfl] at H
  replace H:=eM H
  obtain ⟨t104,A5,H⟩:=H
  by_cases c6:t104=true
  ·subst c6
   rw [if_pos rfl] at H
   replace H:=eM H
   obtain ⟨t105,A7,H⟩:=H
   obtain rfl:=Option.some.inj H
   go_enter Tryz.func15,Tryz.ntmps15
   go_wp2_with (first|((with_reducible refine aN (N:=2) rfl ?_);refine bV (N:=2) #[.int .i64 a0_0,.int .i64 a0_1] 28 ?_;intro gb101 hg w8 hbox hb;have BK101:=aE (hbox);have GW101:=aE ((dX HB hg));have GE101:=aE ((dX HB hg));replace HB:=aE (aD (aX HB) hb);clear hb hbox hg)|((with_reducible refine aN (N:=3) rfl ?_);refine bV (N:=3) #[.int .i64 a1_0,.int .i64 a1_1] 28 ?_;intro gb102 hg w9 hbox hb;have BK102:=aE (hbox);have GW102:=aE ((dX HB hg));have GE102:=aE ((dX HB hg));replace HB:=aE (aD (aX HB) hb);have NB101_102:=aE ((iX BK101 hg));have NB102_101:=aE ((iY BK101 hg));replace BK101:=aE (bB BK101 hb);clear hb hbox hg;have hnb10:=NB101_102.out;have hnc10:=NB102_101.out;have hcz11_0:=aW BK101 0;have hcz11_1:=aW BK101 1;have hfz11_0:=aA BK101.out 0;have hfz11_1:=aA BK101.out 1)|((with_reducible refine aJ (f:=47) rfl ?_);refine aV (some 6) Tryz.func47 #[.agg #[.int .i64 a0_0,.int .i64 a0_1],.int .i64 1000] ?_;(with_reducible refine (fX a0_0 a0_1 1000 true _ A3.out).mono ?_);rintro e w12 ⟨rfl,hb⟩;refine ⟨_,rfl,?_⟩;replace BK101:=aE (bB BK101 hb);replace BK102:=aE (bB BK102 hb);replace HB:=aE (aD (aX HB) hb);(try clear hb);have hcz13_0:=aW BK102 0;have hcz13_1:=aW BK102 1;have hfz13_0:=aA BK102.out 0;have hfz13_1:=aA BK102.out 1)|(go_at_call 47;(with_reducible refine (fX a1_0 a1_1 1000 true _ A5.out).mono ?_);rintro e w14 ⟨rfl,hb⟩;replace BK101:=aE (bB BK101 hb);replace BK102:=aE (bB BK102 hb);replace HB:=aE (aD (aX HB) hb);(try clear hb);have hcz15_0:=aW BK102 0;have hcz15_1:=aW BK102 1;have hfz15_0:=aA BK102.out 0;have hfz15_1:=aA BK102.out 1;have hcz16_0:=aW BK101 0;have hcz16_1:=aW BK101 1;have hfz16_0:=aA BK101.out 0;have hfz16_1:=aA BK101.out 1)|((with_reducible refine aJ (f:=48) rfl ?_);refine aV (some 23) Tryz.func48 #[.int .i64 (wrap64 (a1_0-a0_0)),.int .i64 (wrap64 (a1_1-a0_1))] ?_;(with_reducible refine (zI k (wrap64 (a1_0-a0_0)) (wrap64 (a1_1-a0_1)) t105 _ A7.out).mono ?_);rintro e w' ⟨rfl,⟨nd,rfl⟩⟩;refine ⟨_,rfl,?_⟩))
   go_ret
   exact ⟨bP,aX HB⟩
  ·replace c6:=Bool.eq_false_iff.mpr c6
   subst c6
   rw [if_neg (show ¬ (false=true) by decide)] at H
   obtain rfl:=Option.some.inj H
   go_enter Tryz.func15,Tryz.ntmps15
   go_wp2_with (first|((with_reducible refine aN (N:=2) rfl ?_);refine bV (N:=2) #[.int .i64 a0_0,.int .i64 a0_1] 28 ?_;intro gb101 hg w17 hbox hb;have BK101:=aE (hbox);have GW101:=aE ((dX HB hg));have GE101:=aE ((dX HB hg));replace HB:=aE (aD (aX HB) hb);clear hb hbox hg)|((with_reducible refine aN (N:=3) rfl ?_);refine bV (N:=3) #[.int .i64 a1_0,.int .i64 a1_1] 28 ?_;intro gb102 hg w18 hbox hb;have BK102:=aE (hbox);have GW102:=aE ((dX HB hg));have GE102:=aE ((dX HB hg));replace HB:=aE (aD (aX HB) hb);have NB101_102:=aE ((iX BK101 hg));have NB102_101:=aE ((iY BK101 hg));replace BK101:=aE (bB BK101 hb);clear hb hbox hg;have hnb19:=NB101_102.out;have hnc19:=NB102_101.out;have hcz20_0:=aW BK101 0;have hcz20_1:=aW BK101 1;have hfz20_0:=aA BK101.out 0;have hfz20_1:=aA BK101.out 1)|((with_reducible refine aJ (f:=47) rfl ?_);refine aV (some 6) Tryz.func47 #[.agg #[.int .i64 a0_0,.int .i64 a0_1],.int .i64 1000] ?_;(with_reducible refine (fX a0_0 a0_1 1000 true _ A3.out).mono ?_);rintro e w21 ⟨rfl,hb⟩;refine ⟨_,rfl,?_⟩;replace BK101:=aE (bB BK101 hb);replace BK102:=aE (bB BK102 hb);replace HB:=aE (aD (aX HB) hb);(try clear hb);have hcz22_0:=aW BK102 0;have hcz22_1:=aW BK102 1;have hfz22_0:=aA BK102.out 0;have hfz22_1:=aA BK102.out 1)|(go_at_call 47;(with_reducible refine (fX a1_0 a1_1 1000 false _ A5.out).mono ?_);rintro e w23 ⟨rfl,hb⟩;replace BK101:=aE (bB BK101 hb);replace BK102:=aE (bB BK102 hb);replace HB:=aE (aD (aX HB) hb);(try clear hb)))
   go_ret
   exact ⟨bP,aX HB⟩
 ·replace c4:=Bool.eq_false_iff.mpr c4
  subst c4
  rw [if_neg (show ¬ (false=true) by decide)] at H
  obtain rfl:=Option.some.inj H
  go_enter Tryz.func15,Tryz.ntmps15
  go_wp2_with (first|((with_reducible refine aN (N:=2) rfl ?_);refine bV (N:=2) #[.int .i64 a0_0,.int .i64 a0_1] 28 ?_;intro gb101 hg w24 hbox hb;have BK101:=aE (hbox);have GW101:=aE ((dX HB hg));have GE101:=aE ((dX HB hg));replace HB:=aE (aD (aX HB) hb);clear hb hbox hg)|((with_reducible refine aN (N:=3) rfl ?_);refine bV (N:=3) #[.int .i64 a1_0,.int .i64 a1_1] 28 ?_;intro gb102 hg w25 hbox hb;have BK102:=aE (hbox);have GW102:=aE ((dX HB hg));have GE102:=aE ((dX HB hg));replace HB:=aE (aD (aX HB) hb);have NB101_102:=aE ((iX BK101 hg));have NB102_101:=aE ((iY BK101 hg));replace BK101:=aE (bB BK101 hb);clear hb hbox hg;have hnb26:=NB101_102.out;have hnc26:=NB102_101.out;have hcz27_0:=aW BK101 0;have hcz27_1:=aW BK101 1;have hfz27_0:=aA BK101.out 0;have hfz27_1:=aA BK101.out 1)|((with_reducible refine aJ (f:=47) rfl ?_);refine aV (some 6) Tryz.func47 #[.agg #[.int .i64 a0_0,.int .i64 a0_1],.int .i64 1000] ?_;(with_reducible refine (fX a0_0 a0_1 1000 false _ A3.out).mono ?_);rintro e w28 ⟨rfl,hb⟩;refine ⟨_,rfl,?_⟩;replace BK101:=aE (bB BK101 hb);replace BK102:=aE (bB BK102 hb);replace HB:=aE (aD (aX HB) hb);(try clear hb)))
  go_ret
  exact ⟨bP,aX HB⟩
/-! ### spec_EdgePoints: function 13 -/
def dH:Nat→Int→List (cF)→Int→Option (Int)
 | 0,_,_,_=>none
 | k+1,x3,x4,x5=>if x5<(x4.length:Int) then (if 0≤x5 then (if (x4.length:Int)=0 then (none) else (if 0≤(Int.tmod (wrap64 (x5+1)) (x4.length:Int)) then (if (Int.tmod (wrap64 (x5+1)) (x4.length:Int))<(x4.length:Int) then ((spec_OnEdge.f k ((aC x4 x5).f0) ((aC x4 x5).f1) ((aC x4 (Int.tmod (wrap64 (x5+1)) (x4.length:Int))).f0) ((aC x4 (Int.tmod (wrap64 (x5+1)) (x4.length:Int))).f1)).bind fun t107=>(dH k (wrap64 (x3+t107)) x4 (wrap64 (x5+1)))) else (none)) else (none))) else (none)) else (some x3)
def spec_EdgePoints.f (k:Nat) (l0:List (cF)):Option (Int):=(spec_ArePoints.f k l0).bind fun t101=>(if t101=true then ((spec_l28Hull.f k l0).bind fun t102=>(dH k 0 t102 0)) else (some (-1)))
def qN:Bool×List (List Nat×List Nat):=(true,[([],[]),([],[]),([],[]),([1,2],[1,2]),([3],[3]),([],[]),([],[]),([6],[6]),([],[]),([8],[8]),([7,9],[7,9]),([5,10],[5,10]),([11],[11]),([4,12],[4,12]),([0,13],[0,13]),([14,13,0,1,2,3,4,5,6,7,8,9,10,11,12,13,14],[0,14])])
def yC:List Nat:=[0,0,0,6,14,0,0,64,0,256,960,2016,4064,8190,16383,32767]
theorem vJ:iQ .any (iS Tryz.f13 8)=qN:=by kernel_rfl
theorem uP:dM qN.2 yC=true:=by kernel_rfl
set_option maxHeartbeats 8000000 in
set_option maxRecDepth 100000 in
theorem uQ (k:Nat) (A0:Option Addr) (c0:Nat) (l0:List (cF)) (r:Int) (w:World) (hr0:Kd.C jW w A0 l0.length l0) (hc0:l0.length≤c0) (h:spec_EdgePoints.f k l0=some r) :
  Calls Tryz.prog 13 #[.slice A0 l0.length c0] w fun e w'=>e=.returned (.int .i64 r)∧Below w.heap.size w w':=by
 have hu28:=Tryz.underlying28
 have HR0:=aE hr0
 have HC0:=aE hc0
 clear hr0 hc0
 have HB:=aE (Below.refl w.heap.size w)
 unfold spec_EdgePoints.f at h
 have H:=h
 clear h
 replace H:=eM H
 obtain ⟨t101,A2,H⟩:=H
 by_cases c3:t101=true
 ·subst c3
  rw [if_pos rfl] at H
  replace H:=eM H
  obtain ⟨t102,A4,H⟩:=H
  have H':=aE H
  clear H
  go_enter Tryz.func13,Tryz.ntmps13
  go_wp2_with (first|((with_reducible refine aJ (f:=23) rfl ?_);refine aV (some 7) Tryz.func23 #[.slice A0 l0.length c0] ?_;(with_reducible refine (cB k _ _ l0 true _ ?side1 ?side2 A2.out).mono ?_);(case side1=>exact kJ HR0.out);(case side2=>exact HC0.out);rintro e w5 ⟨rfl,hb⟩;refine ⟨_,rfl,?_⟩;replace HB:=aE (aD (aX HB) hb);(try clear hb))|((with_reducible refine aJ (f:=41) rfl ?_);refine aV (some 10) Tryz.func41 #[.slice A0 l0.length c0] ?_;(with_reducible refine (mE k _ _ l0 t102 _ ?side1 ?side2 A4.out).mono ?_);(case side1=>exact kJ (Kd.C_below HR0.out HB.out));(case side2=>exact HC0.out);rintro e w6 ⟨v103,rfl,ho0,hb⟩;refine ⟨_,rfl,?_⟩;have HO104:=aE (Kd.R_lower ho0 (aT (aX HB)));replace HB:=aE (aD (aX HB) hb);(try clear hb);(try clear ho0)))
  go_loopg [3,5] k (fun kq v3 v5 w'=>∃ (x3_1:Int) (x5_1:Int),v3=.int .i64 x3_1∧v5=.int .i64 x5_1∧Aside0 (dH kq x3_1 t102 x5_1=some r)∧Aside0 (kq≤k)∧Aside0 (Kd.R jW 28 w' w.heap.size (fun _=>True) v103 t102)∧Aside0 (Below w.heap.size w w'))
  case atStart=>exact ⟨(0),(0),aH,aH,H',⟨Nat.le_refl _⟩,⟨bN HO104⟩,⟨aX HB⟩⟩
  case round =>
   clear H'
   try clear c3
   obtain ⟨x3_1,x5_1,rfl,rfl,HA,HK1,HO_4,HB⟩:=hrel
   cases gk with
   | zero=>exact absurd HA.out (by simp [dH])
   | succ k1 =>
    have H:=HA.out
    clear HA
    simp only [dH] at H
    rcases eV H with ⟨c7b0,H⟩|⟨c7b0,H⟩
    ·obtain ⟨c8b0,H⟩:=cV H
     obtain ⟨c9,H⟩:=JQ H
     have c9b0:((t102.length:Int)==0)=false:=beq_eq_false_iff_ne.mpr c9
     have c9b1:((t102.length:Int) != 0)=true:=bne_iff_ne.mpr c9
     have c9b2:¬ (t102=[]):=fun h_=>c9 (by rw [h_];rfl)
     obtain ⟨ji10,hji10⟩:∃ j_:Int,(Int.tmod (wrap64 (x5_1+1)) (t102.length:Int))=j_:=⟨_,rfl⟩
     replace H:(if 0≤(ji10) then (if (ji10)<(t102.length:Int) then ((spec_OnEdge.f k1 ((aC t102 x5_1).f0) ((aC t102 x5_1).f1) ((aC t102 (ji10)).f0) ((aC t102 (ji10)).f1)).bind fun t107=>(dH k1 (wrap64 (x3_1+t107)) t102 (wrap64 (x5_1+1)))) else (none)) else (none))=some r:=by first|(rw [hji10] at H;exact H)|(simp only [hji10] at H ⊢;exact H)
     obtain ⟨c11b0,H⟩:=cV H
     obtain ⟨c12b0,H⟩:=cV H
     replace H:=eM H
     obtain ⟨t107,A13,H⟩:=H
     have H':=aE H
     clear H
     obtain ⟨Ao14,co14,eo14⟩:=Kd.R_slice HO_4.out
     subst eo14
     try go_wp2
     replace HO_4:=aE (gU HO_4.out)
     replace HB:=aE (jK HB.out)
     obtain ⟨p105,q105,ad105,e105,hx105_0,hx105_1⟩:=jP (bW (Kd.R_reads' HO_4.out).2.2 x5_1)
     cases e105
     obtain ⟨p106,q106,ad106,e106,hx106_0,hx106_1⟩:=jP (bW (Kd.R_reads' HO_4.out).2.2 (ji10))
     obtain rfl:ad105=ad106:=(by injection e106)
     refine dA (n:=16) (S:=fun w'=>w'.cell? (ad105.add ((x5_1).toNat*2))=some (.int .i64 ((aC t102 x5_1).f0))∧w'.cell? ⟨(ad105.add ((x5_1).toNat*2)).block,(ad105.add ((x5_1).toNat*2)).off+1,none⟩=some (.int .i64 ((aC t102 x5_1).f1))∧w'.cell? (ad105.add (((ji10)).toNat*2))=some (.int .i64 ((aC t102 (ji10)).f0))∧w'.cell? ⟨(ad105.add (((ji10)).toNat*2)).block,(ad105.add (((ji10)).toNat*2)).off+1,none⟩=some (.int .i64 ((aC t102 (ji10)).f1))) (ds:=[]) (bm 16 0) (by kernel_rfl) rfl rfl ⟨hx105_0,hx105_1,hx106_0,hx106_1⟩ (fun hHeld=>?_);refine bO vJ uP (fun HT_ HW_=>?_)
     generalize wr.drew=w15 at HO_4 HB hx105_0 hx105_1 hx106_0 hx106_1 hHeld ⊢
     refine bU ((0,0,17,1)::(0,1,18,3)::(0,2,19,7)::(0,3,20,15)::(0,5,22,47)::(0,6,23,111)::(0,7,24,239)::(0,8,25,495)::(0,9,26,1007)::(0,10,27,2031)::(0,11,28,4079)::(2,4,21,4095)::(2,12,29,8191)::[]) ?_
     iterate 13 (first|refine jT HT_ ?_|refine pZ HT_ HW_ hHeld ?_)
     refine aU ?_
     refine dQ (i:=13) (N:=some 30) (bm 16 16383) rfl rfl (bJ HT_.out (by kernel_rfl)) (by decide) (fun K hK=>?_)
     refine yR Tryz.func15 (by kernel_rfl) rfl #[.agg #[.int .i64 ((aC t102 x5_1).f0),.int .i64 ((aC t102 x5_1).f1)],.agg #[.int .i64 ((aC t102 (ji10)).f0),.int .i64 ((aC t102 (ji10)).f1)]] (by rfl) rfl rfl (by (try simp only [List.map_toArray,List.map_cons,List.map_nil]);first|done|(simp only [hji10];rfl)|rfl|(simp only [List.length_drop,List.length_take];rfl)) ?_
     with_reducible refine (rL k1 ((aC t102 x5_1).f0) ((aC t102 x5_1).f1) ((aC t102 (ji10)).f0) ((aC t102 (ji10)).f1) t107 _ A13.out).mono ?_
     rintro e w16 ⟨rfl,hb⟩
     have HS0_:=uV hb hHeld.1
     have HS1_:=uV hb hHeld.2.1
     have HS2_:=uV hb hHeld.2.2.1
     have HS3_:=uV hb hHeld.2.2.2
     refine ⟨_,rfl,?_⟩
     replace HO_4:=aE (Kd.R_below (bN HO_4) hb)
     replace HB:=aE (aD (aX HB) hb)
     (try clear hb)
     refine hK.out _ _ ⟨HS0_,HS1_,HS2_,HS3_⟩ (fun hHeld=>?_)
     clear hK K
     refine gA ?_
     refine bU ((0,14,31,32767)::(0,15,3,65535)::[]) ?_
     iterate 2 (first|refine jT HT_ ?_)
     refine aU ?_
     refine eN (cK HT_.out (by kernel_rfl)) ?_
     try go_wp2
     go_roundg k1
     case measure=>have:=HK1.out;omega
     case rel=>exact ⟨(wrap64 (x3_1+t107)),(wrap64 (x5_1+1)),aH,aH,H',⟨by have:=HK1.out;omega⟩,⟨bN HO_4⟩,⟨aX HB⟩⟩
    ·obtain rfl:=Option.some.inj H
     obtain ⟨Ao17,co17,eo17⟩:=Kd.R_slice HO_4.out
     subst eo17
     go_wp2
     go_ret
     exact ⟨bP,aX HB⟩
 ·replace c3:=Bool.eq_false_iff.mpr c3
  subst c3
  rw [if_neg (show ¬ (false=true) by decide)] at H
  obtain rfl:=Option.some.inj H
  go_enter Tryz.func13,Tryz.ntmps13
  go_wp2_with (first|((with_reducible refine aJ (f:=23) rfl ?_);refine aV (some 7) Tryz.func23 #[.slice A0 l0.length c0] ?_;(with_reducible refine (cB k _ _ l0 false _ ?side1 ?side2 A2.out).mono ?_);(case side1=>exact kJ HR0.out);(case side2=>exact HC0.out);rintro e w18 ⟨rfl,hb⟩;refine ⟨_,rfl,?_⟩;replace HB:=aE (aD (aX HB) hb);(try clear hb)))
  go_ret
  exact ⟨bP,aX HB⟩
/-! ### impl_IsGridInside: function 16 -/
def dJ:Nat→List (cF)→List (cF)→Int→Int→Int→Int→Option (Bool)
 | 0,_,_,_,_,_,_=>none
 | k+1,x5,x13,x14,x15,x102000,x102001=>if x15<x14 then (if 0≤x15 then (if x15<(x13.length:Int) then (if (x5.length:Int)=0 then (none) else (if 0≤(Int.tmod (wrap64 (x15+1)) (x5.length:Int)) then (if (Int.tmod (wrap64 (x15+1)) (x5.length:Int))<(x5.length:Int) then ((impl_TurnOf.f ((aC x13 x15).f0) ((aC x13 x15).f1) ((aC x5 (Int.tmod (wrap64 (x15+1)) (x5.length:Int))).f0) ((aC x5 (Int.tmod (wrap64 (x15+1)) (x5.length:Int))).f1) x102000 x102001).bind fun t109=>(if t109=1 then (dJ k x5 x13 x14 (wrap64 (x15+1)) x102000 x102001) else (some false))) else (none)) else (none))) else (none)) else (none)) else (some true)
def impl_IsGridInside.f (k:Nat) (l0:List (cF)) (a1_0:Int) (a1_1:Int):Option (Bool):=(impl_ArePoints.f k l0).bind fun t102=>(if t102=true then ((impl_hullPoints.f k l0).bind fun t103=>(dJ k t103 t103 (t103.length:Int) 0 a1_0 a1_1)) else (some false))
def oC:Bool×List (List Nat×List Nat):=(true,[([],[]),([],[]),([],[]),([2],[2]),([],[]),([4],[4]),([3,5],[3,5]),([1,6],[1,6]),([7],[7]),([],[]),([0,8,9],[0,8,9]),([10],[10])])
def vK:List Nat:=[0,0,0,4,0,16,60,126,254,0,1023,2047]
theorem mT:iQ .any (iS Tryz.f16 7)=oC:=by kernel_rfl
theorem mJ:dM oC.2 vK=true:=by kernel_rfl
set_option maxHeartbeats 8000000 in
set_option maxRecDepth 100000 in
theorem mK (k:Nat) (A0:Option Addr) (c0:Nat) (l0:List (cF)) (a1_0:Int) (a1_1:Int) (r:Bool) (w:World) (hr0:Kd.C jW w A0 l0.length l0) (hc0:l0.length≤c0) (h:impl_IsGridInside.f k l0 a1_0 a1_1=some r) :
  Calls Tryz.prog 16 #[.slice A0 l0.length c0,.agg #[.int .i64 a1_0,.int .i64 a1_1]] w fun e w'=>e=.returned (.bool r)∧Below w.heap.size w w':=by
 have hu28:=Tryz.underlying28
 have HR0:=aE hr0
 have HC0:=aE hc0
 clear hr0 hc0
 have HB:=aE (Below.refl w.heap.size w)
 unfold impl_IsGridInside.f at h
 have H:=h
 clear h
 replace H:=eM H
 obtain ⟨t102,A3,H⟩:=H
 by_cases c4:t102=true
 ·subst c4
  rw [if_pos rfl] at H
  replace H:=eM H
  obtain ⟨t103,A5,H⟩:=H
  have H':=aE H
  clear H
  go_enter Tryz.func16,Tryz.ntmps16
  go_wp2_with (first|((with_reducible refine aN (N:=3) rfl ?_);refine bV (N:=3) #[.int .i64 a1_0,.int .i64 a1_1] 28 ?_;intro gb101 hg w6 hbox hb;have BK101:=aE (hbox);have GW101:=aE ((dX HB hg));have GE101:=aE ((dX HB hg));replace HB:=aE (aD (aX HB) hb);clear hb hbox hg)|((with_reducible refine aJ (f:=30) rfl ?_);refine aV (some 9) Tryz.func30 #[.slice A0 l0.length c0] ?_;(with_reducible refine (cA k _ _ l0 true _ ?side1 ?side2 A3.out).mono ?_);(case side1=>exact kJ (Kd.C_below HR0.out HB.out));(case side2=>exact HC0.out);rintro e w7 ⟨rfl,hb⟩;refine ⟨_,rfl,?_⟩;replace BK101:=aE (bB BK101 hb);replace HB:=aE (aD (aX HB) hb);(try clear hb);(try clear hk))|((with_reducible refine aJ (f:=32) rfl ?_);refine aV (some 12) Tryz.func32 #[.slice A0 l0.length c0] ?_;(with_reducible refine (lE k _ _ l0 t103 _ ?side1 ?side2 A5.out).mono ?_);(case side1=>exact kJ (Kd.C_below HR0.out HB.out));(case side2=>exact HC0.out);rintro e w8 ⟨v104,rfl,ho0,hb⟩;refine ⟨_,rfl,?_⟩;have HO105:=aE (Kd.R_lower (Kd.R_newB ho0 (g:=gb101) (o:=.cells #[.int .i64 a1_0,.int .i64 a1_1] 28 (0,0)) (fO BK101)) (aT (aX HB)));replace BK101:=aE (bB BK101 hb);replace HB:=aE (aD (aX HB) hb);(try clear hb);(try clear hk);(try clear ho0);obtain ⟨Ao9,co9,eo9⟩:=Kd.R_slice HO105.out;subst eo9))
  go_loopg [15] k (fun kq v15 w'=>∃ (x15_1:Int),v15=.int .i64 x15_1∧Aside0 (dJ kq t103 t103 (t103.length:Int) x15_1 a1_0 a1_1=some r)∧Aside0 (kq≤k)∧Aside0 (Kd.R jW 28 w' w.heap.size (fun k_=>k_≠gb101) (.slice Ao9 t103.length co9) t103)∧Aside0 (Kd.R jW 28 w' w.heap.size (fun k_=>k_≠gb101) (.slice Ao9 t103.length co9) t103)∧Aside0 (w'.heap[gb101]? = some (.cells #[.int .i64 a1_0,.int .i64 a1_1] 28 (0,0)))∧Aside0 (Below w.heap.size w w'))
  case atStart=>exact ⟨(0),aH,H',⟨Nat.le_refl _⟩,⟨by (with_reducible repeat (first|apply kD|apply kE|apply gU));exact Kd.R_mono HO105.out (fun _ hk=>hk.2)⟩,⟨by (with_reducible repeat (first|apply kD|apply kE|apply gU));exact Kd.R_mono HO105.out (fun _ hk=>hk.2)⟩,⟨fO BK101⟩,⟨aX HB⟩⟩
  case round =>
   clear H'
   try clear c4
   obtain ⟨x15_1,rfl,HA,HK1,HO_5,HO_13,BK101,HB⟩:=hrel
   cases gk with
   | zero=>exact absurd HA.out (by simp [dJ])
   | succ k1 =>
    have H:=HA.out
    clear HA
    simp only [dJ] at H
    rcases eV H with ⟨c10b0,H⟩|⟨c10b0,H⟩
    ·obtain ⟨c11b0,H⟩:=cV H
     obtain ⟨c12b0,H⟩:=cV H
     obtain ⟨c13,H⟩:=JQ H
     have c13b0:((t103.length:Int)==0)=false:=beq_eq_false_iff_ne.mpr c13
     have c13b1:((t103.length:Int) != 0)=true:=bne_iff_ne.mpr c13
     have c13b2:¬ (t103=[]):=fun h_=>c13 (by rw [h_];rfl)
     obtain ⟨ji14,hji14⟩:∃ j_:Int,(Int.tmod (wrap64 (x15_1+1)) (t103.length:Int))=j_:=⟨_,rfl⟩
     replace H:(if 0≤(ji14) then (if (ji14)<(t103.length:Int) then ((impl_TurnOf.f ((aC t103 x15_1).f0) ((aC t103 x15_1).f1) ((aC t103 (ji14)).f0) ((aC t103 (ji14)).f1) a1_0 a1_1).bind fun t109=>(if t109=1 then (dJ k1 t103 t103 (t103.length:Int) (wrap64 (x15_1+1)) a1_0 a1_1) else (some false))) else (none)) else (none))=some r:=by first|(rw [hji14] at H;exact H)|(simp only [hji14] at H ⊢;exact H)
     obtain ⟨c15b0,H⟩:=cV H
     obtain ⟨c16b0,H⟩:=cV H
     replace H:=eM H
     obtain ⟨t109,A17,H⟩:=H
     rcases jE H with ⟨c18,H⟩|⟨c18,H⟩
     ·have c18b0:(t109==1)=true:=beq_iff_eq.mpr c18
      have c18b1:(t109 != 1)=false:=bne_eq_false_iff_eq.mpr c18
      clear c18
      have H':=aE H
      clear H
      obtain ⟨p106,q106,ad106,e106,hx106_0,hx106_1⟩:=jP (bW (Kd.R_reads' HO_13.out).2.2 x15_1)
      cases e106
      try go_wp2_with (first|((with_reducible refine aN (N:=7) rfl ?_);refine bV (N:=7) #[.int .i64 0,.int .i64 0] 28 ?_;intro gb107 hg w19 hbox hb;replace HO_5:=aE (Kd.R_below (Kd.R_elderB (bN HO_5) gb107 (Nat.le_of_eq hg.symm)) hb);replace HO_13:=aE (Kd.R_below (Kd.R_elderB (bN HO_13) gb107 (Nat.le_of_eq hg.symm)) hb);have BK107:=aE (hbox);have GW107:=aE ((dX HB hg));have GE107:=aE ((dX HB hg));replace HB:=aE (aD (aX HB) hb);have NB101_107:=aE ((iX BK101 hg));have NB107_101:=aE ((iY BK101 hg));replace BK101:=aE (bB BK101 hb);clear hb hbox hg;have hnb20:=NB107_101.out;have hnc20:=NB101_107.out;have hcz21_0:=aW BK107 0;have hcz21_1:=aW BK107 1;have hfz21_0:=aA BK107.out 0;have hfz21_1:=aA BK107.out 1))
      replace HO_5:Aside0 (Kd.R jW 28 ((w19.setCell ⟨gb107,0,none⟩ (.int .i64 ((aC t103 x15_1).f0))).setCell ⟨gb107,1,none⟩ (.int .i64 ((aC t103 x15_1).f1))) w.heap.size (fun k_=>k_≠gb101∧k_≠gb107) (.slice (some ad106) t103.length co9) t103):=⟨by (with_reducible repeat (first|apply kD|apply kE|apply gU));exact Kd.R_mono (Kd.R_far (p:=⟨gb107,1,none⟩) (Kd.R_far (p:=⟨gb107,0,none⟩) (Kd.R_mono HO_5.out (fun k_ hk=>(⟨hk,hk.2⟩:_∧k_≠gb107))) (fun _ hk=>hk.2) (.int .i64 ((aC t103 x15_1).f0))) (fun _ hk=>hk.2) (.int .i64 ((aC t103 x15_1).f1))) (fun _ hk=>⟨hk.1.1,hk.1.2⟩)⟩
      replace HO_13:Aside0 (Kd.R jW 28 ((w19.setCell ⟨gb107,0,none⟩ (.int .i64 ((aC t103 x15_1).f0))).setCell ⟨gb107,1,none⟩ (.int .i64 ((aC t103 x15_1).f1))) w.heap.size (fun k_=>k_≠gb101∧k_≠gb107) (.slice (some ad106) t103.length co9) t103):=⟨by (with_reducible repeat (first|apply kD|apply kE|apply gU));exact Kd.R_mono (Kd.R_far (p:=⟨gb107,1,none⟩) (Kd.R_far (p:=⟨gb107,0,none⟩) (Kd.R_mono HO_13.out (fun k_ hk=>(⟨hk,hk.2⟩:_∧k_≠gb107))) (fun _ hk=>hk.2) (.int .i64 ((aC t103 x15_1).f0))) (fun _ hk=>hk.2) (.int .i64 ((aC t103 x15_1).f1))) (fun _ hk=>⟨hk.1.1,hk.1.2⟩)⟩
      replace BK101:Aside0 (((w19.setCell ⟨gb107,0,none⟩ (.int .i64 ((aC t103 x15_1).f0))).setCell ⟨gb107,1,none⟩ (.int .i64 ((aC t103 x15_1).f1))).heap[gb101]? = some (.cells #[.int .i64 a1_0,.int .i64 a1_1] 28 (0,0))):=⟨jR BK101⟩
      replace BK107:Aside0 (((w19.setCell ⟨gb107,0,none⟩ (.int .i64 ((aC t103 x15_1).f0))).setCell ⟨gb107,1,none⟩ (.int .i64 ((aC t103 x15_1).f1))).heap[gb107]? = some (.cells #[.int .i64 ((aC t103 x15_1).f0),.int .i64 ((aC t103 x15_1).f1)] 28 (0,0))):=⟨jR BK107⟩
      replace HB:Aside0 (Below w.heap.size w ((w19.setCell ⟨gb107,0,none⟩ (.int .i64 ((aC t103 x15_1).f0))).setCell ⟨gb107,1,none⟩ (.int .i64 ((aC t103 x15_1).f1)))):=⟨aX HB⟩
      generalize ((w19.setCell ⟨gb107,0,none⟩ (.int .i64 ((aC t103 x15_1).f0))).setCell ⟨gb107,1,none⟩ (.int .i64 ((aC t103 x15_1).f1)))=w22 at HO_5 HO_13 BK101 BK107 HB ⊢
      replace HO_5:=aE (gU HO_5.out)
      replace HO_13:=aE (gU HO_13.out)
      replace BK101:=aE (aI BK101.out)
      replace BK107:=aE (aI BK107.out)
      replace HB:=aE (jK HB.out)
      obtain ⟨p108,q108,ad108,e108,hx108_0,hx108_1⟩:=jP (bW (Kd.R_reads' HO_5.out).2.2 (ji14))
      obtain rfl:ad106=ad108:=(by injection e108)
      refine dA (n:=12) (S:=fun w'=>w'.cell? ⟨gb107,0,none⟩=some (.int .i64 ((aC t103 x15_1).f0))∧w'.cell? ⟨gb107,1,none⟩=some (.int .i64 ((aC t103 x15_1).f1))∧w'.cell? ⟨gb101,0,none⟩=some (.int .i64 a1_0)∧w'.cell? ⟨gb101,1,none⟩=some (.int .i64 a1_1)∧w'.cell? (ad106.add (((ji14)).toNat*2))=some (.int .i64 ((aC t103 (ji14)).f0))∧w'.cell? ⟨(ad106.add (((ji14)).toNat*2)).block,(ad106.add (((ji14)).toNat*2)).off+1,none⟩=some (.int .i64 ((aC t103 (ji14)).f1))) (ds:=[]) (bm 12 0) (by kernel_rfl) rfl rfl ⟨aW BK107 0,aW BK107 1,aW BK101 0,aW BK101 1,hx108_0,hx108_1⟩ (fun hHeld=>?_);refine bO mT mJ (fun HT_ HW_=>?_)
      generalize w22.drew=w23 at HO_5 HO_13 BK101 BK107 HB hx108_0 hx108_1 hHeld ⊢
      refine bU ((0,1,21,2)::(0,2,22,6)::(0,3,23,14)::(0,4,24,30)::(0,5,25,62)::(0,6,26,126)::(0,7,27,254)::(2,0,20,255)::(2,8,28,511)::(2,9,29,1023)::[]) ?_
      iterate 10 (first|refine jT HT_ ?_|refine pZ HT_ HW_ hHeld ?_)
      refine aU ?_
      refine dQ (i:=10) (N:=some 30) (bm 12 2047) rfl rfl (bJ HT_.out (by kernel_rfl)) (by decide) (fun K hK=>?_)
      refine yR Tryz.func49 (by kernel_rfl) rfl #[.agg #[.int .i64 ((aC t103 x15_1).f0),.int .i64 ((aC t103 x15_1).f1)],.agg #[.int .i64 ((aC t103 (ji14)).f0),.int .i64 ((aC t103 (ji14)).f1)],.agg #[.int .i64 a1_0,.int .i64 a1_1]] (by rfl) rfl rfl (by (try simp only [List.map_toArray,List.map_cons,List.map_nil]);first|done|(simp only [hji14];rfl)|rfl|(simp only [List.length_drop,List.length_take];rfl)) ?_
      with_reducible refine (kG ((aC t103 x15_1).f0) ((aC t103 x15_1).f1) ((aC t103 (ji14)).f0) ((aC t103 (ji14)).f1) a1_0 a1_1 t109 _ A17.out).mono ?_
      rintro e w24 ⟨rfl,hb⟩
      have HS4_:=uV hb hHeld.2.2.2.2.1
      have HS5_:=uV hb hHeld.2.2.2.2.2
      refine ⟨_,rfl,?_⟩
      replace HO_5:=aE (Kd.R_below (bN HO_5) hb)
      replace HO_13:=aE (Kd.R_below (bN HO_13) hb)
      replace BK101:=aE (bB BK101 hb)
      replace BK107:=aE (bB BK107 hb)
      replace HB:=aE (aD (aX HB) hb)
      (try clear hb)
      (try clear hk)
      refine hK.out _ _ ⟨aW BK107 0,aW BK107 1,aW BK101 0,aW BK101 1,HS4_,HS5_⟩ (fun hHeld=>?_)
      clear hK K
      refine gA ?_
      refine bU ((0,11,31,4095)::[]) ?_
      iterate 1 (first|refine jT HT_ ?_)
      refine aU ?_
      refine eN (cK HT_.out (by kernel_rfl)) ?_
      try go_wp2
      go_roundg k1
      case measure=>have:=HK1.out;omega
      case rel=>exact ⟨(wrap64 (x15_1+1)),aH,H',⟨by have:=HK1.out;omega⟩,⟨by (with_reducible repeat (first|apply kD|apply kE|apply gU));exact Kd.R_mono HO_5.out (fun _ hk=>hk.1)⟩,⟨by (with_reducible repeat (first|apply kD|apply kE|apply gU));exact Kd.R_mono HO_13.out (fun _ hk=>hk.1)⟩,⟨fO BK101⟩,⟨aX HB⟩⟩
     ·have c18b0:(t109==1)=false:=beq_eq_false_iff_ne.mpr c18
      have c18b1:(t109 != 1)=true:=bne_iff_ne.mpr c18
      obtain rfl:=Option.some.inj H
      obtain ⟨p106,q106,ad106,e106,hx106_0,hx106_1⟩:=jP (bW (Kd.R_reads' HO_13.out).2.2 x15_1)
      cases e106
      try go_wp2_with (first|((with_reducible refine aN (N:=7) rfl ?_);refine bV (N:=7) #[.int .i64 0,.int .i64 0] 28 ?_;intro gb107 hg w25 hbox hb;replace HO_5:=aE (Kd.R_below (Kd.R_elderB (bN HO_5) gb107 (Nat.le_of_eq hg.symm)) hb);replace HO_13:=aE (Kd.R_below (Kd.R_elderB (bN HO_13) gb107 (Nat.le_of_eq hg.symm)) hb);have BK107:=aE (hbox);have GW107:=aE ((dX HB hg));have GE107:=aE ((dX HB hg));replace HB:=aE (aD (aX HB) hb);have NB101_107:=aE ((iX BK101 hg));have NB107_101:=aE ((iY BK101 hg));replace BK101:=aE (bB BK101 hb);clear hb hbox hg;have hnb26:=NB107_101.out;have hnc26:=NB101_107.out;have hcz27_0:=aW BK107 0;have hcz27_1:=aW BK107 1;have hfz27_0:=aA BK107.out 0;have hfz27_1:=aA BK107.out 1))
      replace HO_5:Aside0 (Kd.R jW 28 ((w25.setCell ⟨gb107,0,none⟩ (.int .i64 ((aC t103 x15_1).f0))).setCell ⟨gb107,1,none⟩ (.int .i64 ((aC t103 x15_1).f1))) w.heap.size (fun k_=>k_≠gb101∧k_≠gb107) (.slice (some ad106) t103.length co9) t103):=⟨by (with_reducible repeat (first|apply kD|apply kE|apply gU));exact Kd.R_mono (Kd.R_far (p:=⟨gb107,1,none⟩) (Kd.R_far (p:=⟨gb107,0,none⟩) (Kd.R_mono HO_5.out (fun k_ hk=>(⟨hk,hk.2⟩:_∧k_≠gb107))) (fun _ hk=>hk.2) (.int .i64 ((aC t103 x15_1).f0))) (fun _ hk=>hk.2) (.int .i64 ((aC t103 x15_1).f1))) (fun _ hk=>⟨hk.1.1,hk.1.2⟩)⟩
      replace HO_13:Aside0 (Kd.R jW 28 ((w25.setCell ⟨gb107,0,none⟩ (.int .i64 ((aC t103 x15_1).f0))).setCell ⟨gb107,1,none⟩ (.int .i64 ((aC t103 x15_1).f1))) w.heap.size (fun k_=>k_≠gb101∧k_≠gb107) (.slice (some ad106) t103.length co9) t103):=⟨by (with_reducible repeat (first|apply kD|apply kE|apply gU));exact Kd.R_mono (Kd.R_far (p:=⟨gb107,1,none⟩) (Kd.R_far (p:=⟨gb107,0,none⟩) (Kd.R_mono HO_13.out (fun k_ hk=>(⟨hk,hk.2⟩:_∧k_≠gb107))) (fun _ hk=>hk.2) (.int .i64 ((aC t103 x15_1).f0))) (fun _ hk=>hk.2) (.int .i64 ((aC t103 x15_1).f1))) (fun _ hk=>⟨hk.1.1,hk.1.2⟩)⟩
      replace BK101:Aside0 (((w25.setCell ⟨gb107,0,none⟩ (.int .i64 ((aC t103 x15_1).f0))).setCell ⟨gb107,1,none⟩ (.int .i64 ((aC t103 x15_1).f1))).heap[gb101]? = some (.cells #[.int .i64 a1_0,.int .i64 a1_1] 28 (0,0))):=⟨jR BK101⟩
      replace BK107:Aside0 (((w25.setCell ⟨gb107,0,none⟩ (.int .i64 ((aC t103 x15_1).f0))).setCell ⟨gb107,1,none⟩ (.int .i64 ((aC t103 x15_1).f1))).heap[gb107]? = some (.cells #[.int .i64 ((aC t103 x15_1).f0),.int .i64 ((aC t103 x15_1).f1)] 28 (0,0))):=⟨jR BK107⟩
      replace HB:Aside0 (Below w.heap.size w ((w25.setCell ⟨gb107,0,none⟩ (.int .i64 ((aC t103 x15_1).f0))).setCell ⟨gb107,1,none⟩ (.int .i64 ((aC t103 x15_1).f1)))):=⟨aX HB⟩
      generalize ((w25.setCell ⟨gb107,0,none⟩ (.int .i64 ((aC t103 x15_1).f0))).setCell ⟨gb107,1,none⟩ (.int .i64 ((aC t103 x15_1).f1)))=w28 at HO_5 HO_13 BK101 BK107 HB ⊢
      replace HO_5:=aE (gU HO_5.out)
      replace HO_13:=aE (gU HO_13.out)
      replace BK101:=aE (aI BK101.out)
      replace BK107:=aE (aI BK107.out)
      replace HB:=aE (jK HB.out)
      obtain ⟨p108,q108,ad108,e108,hx108_0,hx108_1⟩:=jP (bW (Kd.R_reads' HO_5.out).2.2 (ji14))
      obtain rfl:ad106=ad108:=(by injection e108)
      refine dA (n:=12) (S:=fun w'=>w'.cell? ⟨gb107,0,none⟩=some (.int .i64 ((aC t103 x15_1).f0))∧w'.cell? ⟨gb107,1,none⟩=some (.int .i64 ((aC t103 x15_1).f1))∧w'.cell? ⟨gb101,0,none⟩=some (.int .i64 a1_0)∧w'.cell? ⟨gb101,1,none⟩=some (.int .i64 a1_1)∧w'.cell? (ad106.add (((ji14)).toNat*2))=some (.int .i64 ((aC t103 (ji14)).f0))∧w'.cell? ⟨(ad106.add (((ji14)).toNat*2)).block,(ad106.add (((ji14)).toNat*2)).off+1,none⟩=some (.int .i64 ((aC t103 (ji14)).f1))) (ds:=[]) (bm 12 0) (by kernel_rfl) rfl rfl ⟨aW BK107 0,aW BK107 1,aW BK101 0,aW BK101 1,hx108_0,hx108_1⟩ (fun hHeld=>?_);refine bO mT mJ (fun HT_ HW_=>?_)
      generalize w28.drew=w29 at HO_5 HO_13 BK101 BK107 HB hx108_0 hx108_1 hHeld ⊢
      refine bU ((0,1,21,2)::(0,2,22,6)::(0,3,23,14)::(0,4,24,30)::(0,5,25,62)::(0,6,26,126)::(0,7,27,254)::(2,0,20,255)::(2,8,28,511)::(2,9,29,1023)::[]) ?_
      iterate 10 (first|refine jT HT_ ?_|refine pZ HT_ HW_ hHeld ?_)
      refine aU ?_
      refine dQ (i:=10) (N:=some 30) (bm 12 2047) rfl rfl (bJ HT_.out (by kernel_rfl)) (by decide) (fun K hK=>?_)
      refine yR Tryz.func49 (by kernel_rfl) rfl #[.agg #[.int .i64 ((aC t103 x15_1).f0),.int .i64 ((aC t103 x15_1).f1)],.agg #[.int .i64 ((aC t103 (ji14)).f0),.int .i64 ((aC t103 (ji14)).f1)],.agg #[.int .i64 a1_0,.int .i64 a1_1]] (by rfl) rfl rfl (by (try simp only [List.map_toArray,List.map_cons,List.map_nil]);first|done|(simp only [hji14];rfl)|rfl|(simp only [List.length_drop,List.length_take];rfl)) ?_
      with_reducible refine (kG ((aC t103 x15_1).f0) ((aC t103 x15_1).f1) ((aC t103 (ji14)).f0) ((aC t103 (ji14)).f1) a1_0 a1_1 t109 _ A17.out).mono ?_
      rintro e w30 ⟨rfl,hb⟩
      have HS4_:=uV hb hHeld.2.2.2.2.1
      have HS5_:=uV hb hHeld.2.2.2.2.2
      refine ⟨_,rfl,?_⟩
      replace HO_5:=aE (Kd.R_below (bN HO_5) hb)
      replace HO_13:=aE (Kd.R_below (bN HO_13) hb)
      replace BK101:=aE (bB BK101 hb)
      replace BK107:=aE (bB BK107 hb)
      replace HB:=aE (aD (aX HB) hb)
      (try clear hb)
      (try clear hk)
      refine hK.out _ _ ⟨aW BK107 0,aW BK107 1,aW BK101 0,aW BK101 1,HS4_,HS5_⟩ (fun hHeld=>?_)
      clear hK K
      refine gA ?_
      refine bU ((0,11,31,4095)::[]) ?_
      iterate 1 (first|refine jT HT_ ?_)
      refine aU ?_
      refine eN (cK HT_.out (by kernel_rfl)) ?_
      try go_wp2
      go_ret
      exact ⟨by first|rfl|(simp [cG,cI] <;> rfl)|(simp only [← hji14];first|rfl|(simp [cG,cI] <;> rfl))|(simp [*,cG,cI] <;> rfl),aX HB⟩
    ·obtain rfl:=Option.some.inj H
     go_wp2
     go_ret
     exact ⟨bP,aX HB⟩
 ·replace c4:=Bool.eq_false_iff.mpr c4
  subst c4
  rw [if_neg (show ¬ (false=true) by decide)] at H
  obtain rfl:=Option.some.inj H
  go_enter Tryz.func16,Tryz.ntmps16
  go_wp2_with (first|((with_reducible refine aN (N:=3) rfl ?_);refine bV (N:=3) #[.int .i64 a1_0,.int .i64 a1_1] 28 ?_;intro gb101 hg w31 hbox hb;have BK101:=aE (hbox);have GW101:=aE ((dX HB hg));have GE101:=aE ((dX HB hg));replace HB:=aE (aD (aX HB) hb);clear hb hbox hg)|((with_reducible refine aJ (f:=30) rfl ?_);refine aV (some 9) Tryz.func30 #[.slice A0 l0.length c0] ?_;(with_reducible refine (cA k _ _ l0 false _ ?side1 ?side2 A3.out).mono ?_);(case side1=>exact kJ (Kd.C_below HR0.out HB.out));(case side2=>exact HC0.out);rintro e w32 ⟨rfl,hb⟩;refine ⟨_,rfl,?_⟩;replace BK101:=aE (bB BK101 hb);replace HB:=aE (aD (aX HB) hb);(try clear hb);(try clear hk)))
  go_ret
  exact ⟨bP,aX HB⟩
/-! ### spec_IsGridInside: function 17 -/
def spec_IsGridInside.f (k:Nat) (l0:List (cF)) (a1_0:Int) (a1_1:Int):Option (Bool):=(spec_ArePoints.f k l0).bind fun t102=>(if t102=true then ((spec_l2Fits.f a1_0 a1_1 50).bind fun t103=>(if t103=true then ((spec_l28Hull.f k l0).bind fun t104=>((spec_l28Inside.f k t104 a1_0 a1_1).bind fun t107=>(some t107))) else (some false))) else (some false))
def oD:Bool×List (List Nat×List Nat):=(true,[([],[]),([0],[0]),([1,1],[1]),([2],[2]),([3,2,2],[2,3]),([2,4],[2,4]),([5,4],[5]),([6],[6]),([7,6,6],[6,7]),([6],[6]),([8,9,8,6],[6,8,9]),([6,10],[6,10]),([11,10,0,1,2,3,4,5,6,7,8,9,10,11],[11])])
def vL:List Nat:=[0,1,3,7,15,31,63,127,255,127,1023,2047,4095]
theorem kW:iQ .any (iS Tryz.f17 1)=oD:=by kernel_rfl
theorem kQ:dM oD.2 vL=true:=by kernel_rfl
set_option maxHeartbeats 8000000 in
set_option maxRecDepth 100000 in
theorem sK (k:Nat) (A0:Option Addr) (c0:Nat) (l0:List (cF)) (a1_0:Int) (a1_1:Int) (r:Bool) (w:World) (hr0:Kd.C jW w A0 l0.length l0) (hc0:l0.length≤c0) (h:spec_IsGridInside.f k l0 a1_0 a1_1=some r) :
  Calls Tryz.prog 17 #[.slice A0 l0.length c0,.agg #[.int .i64 a1_0,.int .i64 a1_1]] w fun e w'=>e=.returned (.bool r)∧Below w.heap.size w w':=by
 have hu28:=Tryz.underlying28
 have HR0:=aE hr0
 have HC0:=aE hc0
 clear hr0 hc0
 have HB:=aE (Below.refl w.heap.size w)
 unfold spec_IsGridInside.f at h
 have H:=h
 clear h
 replace H:=eM H
 obtain ⟨t102,A3,H⟩:=H
 by_cases c4:t102=true
 ·subst c4
  rw [if_pos rfl] at H
  replace H:=eM H
  obtain ⟨t103,A5,H⟩:=H
  by_cases c6:t103=true
  ·subst c6
   rw [if_pos rfl] at H
   replace H:=eM H
   obtain ⟨t104,A7,H⟩:=H
   replace H:=eM H
   obtain ⟨t107,A8,H⟩:=H
   obtain rfl:=Option.some.inj H
   go_enter Tryz.func17,Tryz.ntmps17
   try go_wp2_with (first|((with_reducible refine aN (N:=3) rfl ?_);refine bV (N:=3) #[.int .i64 a1_0,.int .i64 a1_1] 28 ?_;intro gb101 hg w9 hbox hb;have BK101:=aE (hbox);have GW101:=aE ((dX HB hg));have GE101:=aE ((dX HB hg));replace HB:=aE (aD (aX HB) hb);clear hb hbox hg))
   replace BK101:=aE (aI BK101.out)
   replace HB:=aE (jK HB.out)
   refine dA (n:=13) (S:=fun w'=>w'.cell? ⟨gb101,0,none⟩=some (.int .i64 a1_0)∧w'.cell? ⟨gb101,1,none⟩=some (.int .i64 a1_1)) (ds:=[]) (bm 13 0) (by kernel_rfl) rfl rfl ⟨aW BK101 0,aW BK101 1⟩ (fun hHeld=>?_);refine bO kW kQ (fun HT_ HW_=>?_)
   generalize w9.drew=w10 at BK101 HB hHeld ⊢
   refine bU ((0,0,5,1)::[]) ?_
   iterate 1 (first|refine jT HT_ ?_)
   refine aU ?_
   refine dQ (i:=1) (N:=some 6) (bm 13 3) rfl rfl (bJ HT_.out (by kernel_rfl)) (by decide) (fun K hK=>?_)
   refine cN Tryz.func23 #[.slice A0 l0.length c0] ?_
   with_reducible refine (cB k _ _ l0 true _ ?side1 ?side2 A3.out).mono ?_
   (case side1=>exact kJ (Kd.C_below HR0.out HB.out))
   (case side2=>exact HC0.out)
   rintro e w11 ⟨rfl,hb⟩
   refine ⟨_,rfl,?_⟩
   replace BK101:=aE (bB BK101 hb)
   replace HB:=aE (aD (aX HB) hb)
   (try clear hb)
   refine hK.out _ _ ⟨aW BK101 0,aW BK101 1⟩ (fun hHeld=>?_)
   clear hK K
   refine gA ?_
   refine bU ((0,2,7,7)::(2,3,8,15)::[]) ?_
   iterate 2 (first|refine jT HT_ ?_|refine pZ HT_ HW_ hHeld ?_)
   refine aU ?_
   refine dQ (i:=4) (N:=some 9) (bm 13 31) rfl rfl (bJ HT_.out (by kernel_rfl)) (by decide) (fun K hK=>?_)
   refine cN Tryz.func47 #[.agg #[.int .i64 a1_0,.int .i64 a1_1],.int .i64 50] ?_
   with_reducible refine (fX a1_0 a1_1 50 true _ A5.out).mono ?_
   rintro e w12 ⟨rfl,hb⟩
   refine ⟨_,rfl,?_⟩
   replace BK101:=aE (bB BK101 hb)
   replace HB:=aE (aD (aX HB) hb)
   (try clear hb)
   refine hK.out _ _ ⟨aW BK101 0,aW BK101 1⟩ (fun hHeld=>?_)
   clear hK K
   refine gA ?_
   refine bU ((0,5,10,63)::(0,6,11,127)::(0,7,12,255)::(2,9,14,767)::[]) ?_
   iterate 4 (first|refine jT HT_ ?_|refine pZ HT_ HW_ hHeld ?_)
   refine aU ?_
   refine dQ (i:=8) (N:=some 13) (bm 13 1023) rfl rfl (bJ HT_.out (by kernel_rfl)) (by decide) (fun K hK=>?_)
   refine cN Tryz.func41 #[.slice A0 l0.length c0] ?_
   with_reducible refine (mE k _ _ l0 t104 _ ?side1 ?side2 A7.out).mono ?_
   (case side1=>exact kJ (Kd.C_below HR0.out HB.out))
   (case side2=>exact HC0.out)
   rintro e w13 ⟨v105,rfl,ho0,hb⟩
   refine ⟨_,rfl,?_⟩
   have HO106:=aE (Kd.R_lower (Kd.R_newB ho0 (g:=gb101) (o:=.cells #[.int .i64 a1_0,.int .i64 a1_1] 28 (0,0)) (fO BK101)) (aT (aX HB)))
   replace BK101:=aE (bB BK101 hb)
   replace HB:=aE (aD (aX HB) hb)
   (try clear hb)
   (try clear ho0)
   obtain ⟨Ao14,co14,eo14⟩:=Kd.R_slice HO106.out
   (first|subst eo14|(injection eo14 with f1_ f2_ f3_;have f4_:=f1_.symm;have f5_:=f3_.symm;clear f1_ f2_ f3_;subst f4_;subst f5_))
   refine hK.out _ _ ⟨aW BK101 0,aW BK101 1⟩ (fun hHeld=>?_)
   clear hK K
   refine gA ?_
   refine dQ (i:=10) (N:=some 15) (bm 13 2047) rfl rfl (bJ HT_.out (by kernel_rfl)) (by decide) (fun K hK=>?_)
   refine cN Tryz.func44 #[.slice Ao14 t104.length co14,.agg #[.int .i64 a1_0,.int .i64 a1_1]] ?_
   with_reducible refine (oB k _ _ t104 a1_0 a1_1 t107 _ ?side1 ?side2 A8.out).mono ?_
   (case side1=>exact kJ (Kd.R_reads' HO106.out).2.2)
   (case side2=>exact (Kd.R_reads' HO106.out).2.1)
   rintro e w15 ⟨rfl,hb⟩
   refine ⟨_,rfl,?_⟩
   replace HO106:=aE (Kd.R_below (bN HO106) hb)
   replace BK101:=aE (bB BK101 hb)
   replace HB:=aE (aD (aX HB) hb)
   (try clear hb)
   refine hK.out _ _ ⟨aW BK101 0,aW BK101 1⟩ (fun hHeld=>?_)
   clear hK K
   refine gA ?_
   refine bU ((0,11,16,4095)::(0,12,4,8191)::[]) ?_
   iterate 2 (first|refine jT HT_ ?_)
   refine aU ?_
   refine eN (cK HT_.out (by kernel_rfl)) ?_
   try go_wp2
   go_ret
   exact ⟨bP,aX HB⟩
  ·replace c6:=Bool.eq_false_iff.mpr c6
   subst c6
   rw [if_neg (show ¬ (false=true) by decide)] at H
   obtain rfl:=Option.some.inj H
   go_enter Tryz.func17,Tryz.ntmps17
   try go_wp2_with (first|((with_reducible refine aN (N:=3) rfl ?_);refine bV (N:=3) #[.int .i64 a1_0,.int .i64 a1_1] 28 ?_;intro gb101 hg w16 hbox hb;have BK101:=aE (hbox);have GW101:=aE ((dX HB hg));have GE101:=aE ((dX HB hg));replace HB:=aE (aD (aX HB) hb);clear hb hbox hg))
   replace BK101:=aE (aI BK101.out)
   replace HB:=aE (jK HB.out)
   refine dA (n:=13) (S:=fun w'=>w'.cell? ⟨gb101,0,none⟩=some (.int .i64 a1_0)∧w'.cell? ⟨gb101,1,none⟩=some (.int .i64 a1_1)) (ds:=[]) (bm 13 0) (by kernel_rfl) rfl rfl ⟨aW BK101 0,aW BK101 1⟩ (fun hHeld=>?_);refine bO kW kQ (fun HT_ HW_=>?_)
   generalize w16.drew=w17 at BK101 HB hHeld ⊢
   refine bU ((0,0,5,1)::[]) ?_
   iterate 1 (first|refine jT HT_ ?_)
   refine aU ?_
   refine dQ (i:=1) (N:=some 6) (bm 13 3) rfl rfl (bJ HT_.out (by kernel_rfl)) (by decide) (fun K hK=>?_)
   refine cN Tryz.func23 #[.slice A0 l0.length c0] ?_
   with_reducible refine (cB k _ _ l0 true _ ?side1 ?side2 A3.out).mono ?_
   (case side1=>exact kJ (Kd.C_below HR0.out HB.out))
   (case side2=>exact HC0.out)
   rintro e w18 ⟨rfl,hb⟩
   refine ⟨_,rfl,?_⟩
   replace BK101:=aE (bB BK101 hb)
   replace HB:=aE (aD (aX HB) hb)
   (try clear hb)
   refine hK.out _ _ ⟨aW BK101 0,aW BK101 1⟩ (fun hHeld=>?_)
   clear hK K
   refine gA ?_
   refine bU ((0,2,7,7)::(2,3,8,15)::[]) ?_
   iterate 2 (first|refine jT HT_ ?_|refine pZ HT_ HW_ hHeld ?_)
   refine aU ?_
   refine dQ (i:=4) (N:=some 9) (bm 13 31) rfl rfl (bJ HT_.out (by kernel_rfl)) (by decide) (fun K hK=>?_)
   refine cN Tryz.func47 #[.agg #[.int .i64 a1_0,.int .i64 a1_1],.int .i64 50] ?_
   with_reducible refine (fX a1_0 a1_1 50 false _ A5.out).mono ?_
   rintro e w19 ⟨rfl,hb⟩
   refine ⟨_,rfl,?_⟩
   replace BK101:=aE (bB BK101 hb)
   replace HB:=aE (aD (aX HB) hb)
   (try clear hb)
   refine hK.out _ _ ⟨aW BK101 0,aW BK101 1⟩ (fun hHeld=>?_)
   clear hK K
   refine gA ?_
   refine bU ((0,5,10,63)::(0,6,11,127)::(1,7,12,255)::(1,8,13,511)::(1,9,14,1023)::(1,10,15,2047)::(0,11,16,4095)::(0,12,4,8191)::[]) ?_
   iterate 8 (first|refine jT HT_ ?_|(refine RJ undef ?_ rfl rfl (lN HT_.out (by kernel_rfl)) (fun _ _ _ h=>h) (Or.inr ⟨by rfl,rfl⟩) ?_ ?_;rotate_left 1;(· simp only [Act.put,List.setIfInBounds_toArray,List.set_cons_zero,List.set_cons_succ,cC,dW];rfl)))
   refine aU ?_
   refine eN (cK HT_.out (by kernel_rfl)) ?_
   try go_wp2
   go_ret
   exact ⟨bP,aX HB⟩
 ·replace c4:=Bool.eq_false_iff.mpr c4
  subst c4
  rw [if_neg (show ¬ (false=true) by decide)] at H
  obtain rfl:=Option.some.inj H
  go_enter Tryz.func17,Tryz.ntmps17
  try go_wp2_with (first|((with_reducible refine aN (N:=3) rfl ?_);refine bV (N:=3) #[.int .i64 a1_0,.int .i64 a1_1] 28 ?_;intro gb101 hg w20 hbox hb;have BK101:=aE (hbox);have GW101:=aE ((dX HB hg));have GE101:=aE ((dX HB hg));replace HB:=aE (aD (aX HB) hb);clear hb hbox hg))
  replace BK101:=aE (aI BK101.out)
  replace HB:=aE (jK HB.out)
  refine dA (n:=13) (S:=fun w'=>True) (ds:=[]) (bm 13 0) (by kernel_rfl) rfl rfl trivial (fun hHeld=>?_);refine bO kW kQ (fun HT_ HW_=>?_)
  generalize w20.drew=w21 at BK101 HB hHeld ⊢
  refine bU ((0,0,5,1)::[]) ?_
  iterate 1 (first|refine jT HT_ ?_)
  refine aU ?_
  refine dQ (i:=1) (N:=some 6) (bm 13 3) rfl rfl (bJ HT_.out (by kernel_rfl)) (by decide) (fun K hK=>?_)
  refine cN Tryz.func23 #[.slice A0 l0.length c0] ?_
  with_reducible refine (cB k _ _ l0 false _ ?side1 ?side2 A3.out).mono ?_
  (case side1=>exact kJ (Kd.C_below HR0.out HB.out))
  (case side2=>exact HC0.out)
  rintro e w22 ⟨rfl,hb⟩
  refine ⟨_,rfl,?_⟩
  replace BK101:=aE (bB BK101 hb)
  replace HB:=aE (aD (aX HB) hb)
  (try clear hb)
  refine hK.out _ _ trivial (fun hHeld=>?_)
  clear hK K
  refine gA ?_
  refine bU ((0,2,7,7)::(1,3,8,15)::(1,4,9,31)::(0,5,10,63)::(0,6,11,127)::(1,7,12,255)::(1,8,13,511)::(1,9,14,1023)::(1,10,15,2047)::(0,11,16,4095)::(0,12,4,8191)::[]) ?_
  iterate 11 (first|refine jT HT_ ?_|(refine RJ undef ?_ rfl rfl (lN HT_.out (by kernel_rfl)) (fun _ _ _ h=>h) (Or.inr ⟨by rfl,rfl⟩) ?_ ?_;rotate_left 1;(· simp only [Act.put,List.setIfInBounds_toArray,List.set_cons_zero,List.set_cons_succ,cC,dW];rfl)))
  refine aU ?_
  refine eN (cK HT_.out (by kernel_rfl)) ?_
  try go_wp2
  go_ret
  exact ⟨bP,aX HB⟩
/-! ### laws_sameInts: function 18 -/
def iR:Nat→List Int→List Int→Int→Option (Bool)
 | 0,_,_,_=>none
 | k+1,x0,x1,x5=>if x5<(x0.length:Int) then (if 0≤x5 then (if x5<(x1.length:Int) then (if (rd x0 x5)=(rd x1 x5) then (iR k x0 x1 (wrap64 (x5+1))) else (some false)) else (none)) else (none)) else (some true)
def laws_sameInts.f (k:Nat) (l0:List Int) (l1:List Int):Option (Bool):=if (l0.length:Int)=(l1.length:Int) then (iR k l0 l1 0) else (some false)
set_option maxHeartbeats 8000000 in
set_option maxRecDepth 100000 in
theorem pA (k:Nat) (A0:Option Addr) (c0:Nat) (l0:List Int) (A1:Option Addr) (c1:Nat) (l1:List Int) (r:Bool) (w:World) (hr0:Kd.C (Kd.int .i64) w A0 l0.length l0) (hc0:l0.length≤c0) (hr1:Kd.C (Kd.int .i64) w A1 l1.length l1) (hc1:l1.length≤c1) (h:laws_sameInts.f k l0 l1=some r) :
  Calls Tryz.prog 18 #[.slice A0 l0.length c0,.slice A1 l1.length c1] w fun e w'=>e=.returned (.bool r)∧gH w w':=by
 have HR0:=aE hr0
 have HC0:=aE hc0
 clear hr0 hc0
 have HR1:=aE hr1
 have HC1:=aE hc1
 clear hr1 hc1
 unfold laws_sameInts.f at h
 have H:=h
 clear h
 replace H:=jE H
 rcases H with ⟨c3,H⟩|⟨c3,H⟩
 ·have c3b0:((l0.length:Int)==(l1.length:Int))=true:=beq_iff_eq.mpr c3
  have c3b1:((l0.length:Int) != (l1.length:Int))=false:=bne_eq_false_iff_eq.mpr c3
  have c3b2:(l0.length==l1.length)=true:=by first|simpa using c3|(simp at c3 ⊢;omega)
  clear c3
  have H':=aE H
  clear H
  go_enter Tryz.func18,Tryz.ntmps18
  go_wp2
  go_loopg [5] k (fun kq v5 w'=>∃ (x5_1:Int),v5=.int .i64 x5_1∧Aside0 (iR kq l0 l1 x5_1=some r)∧Aside0 (kq≤k)∧gH w w')
  case atStart=>exact ⟨(0),aH,H',⟨Nat.le_refl _⟩,by repeat (first|exact gH.refl _|apply bF)⟩
  case round =>
   clear H'
   try clear c1
   try clear c3
   try clear c3b0
   try clear c3b1
   try clear c3b2
   obtain ⟨x5_1,rfl,HA,HK1,⟨m1,rfl⟩⟩:=hrel
   cases gk with
   | zero=>exact absurd HA.out (by simp [iR])
   | succ k1 =>
    have H:=HA.out
    clear HA
    simp only [iR] at H
    replace H:=eV H
    rcases H with ⟨c4b0,H⟩|⟨c4b0,H⟩
    ·obtain ⟨c5b0,H⟩:=cV H
     obtain ⟨c6b0,H⟩:=cV H
     replace H:=jE H
     rcases H with ⟨c7,H⟩|⟨c7,H⟩
     ·have c7b0:((rd l0 x5_1)==(rd l1 x5_1))=true:=beq_iff_eq.mpr c7
      have c7b1:((rd l0 x5_1) != (rd l1 x5_1))=false:=bne_eq_false_iff_eq.mpr c7
      clear c7
      have H':=aE H
      clear H
      obtain ⟨p101,q101,ad101,e101,hx101_0⟩:=jP (Kd.at_int HR0.out x5_1)
      cases e101
      obtain ⟨p102,q102,ad102,e102,hx102_0⟩:=jP (Kd.at_int HR1.out x5_1)
      cases e102
      go_wp2
      repeat (go_quiet (fail);try go_wp2)
      go_roundg k1
      case measure=>have:=HK1.out;omega
      case rel=>exact ⟨(wrap64 (x5_1+1)),aH,H',⟨by have:=HK1.out;omega⟩,by repeat (first|exact gH.refl _|apply bF)⟩
     ·have c7b0:((rd l0 x5_1)==(rd l1 x5_1))=false:=beq_eq_false_iff_ne.mpr c7
      have c7b1:((rd l0 x5_1) != (rd l1 x5_1))=true:=bne_iff_ne.mpr c7
      obtain rfl:=Option.some.inj H
      obtain ⟨p101,q101,ad101,e101,hx101_0⟩:=jP (Kd.at_int HR0.out x5_1)
      cases e101
      obtain ⟨p102,q102,ad102,e102,hx102_0⟩:=jP (Kd.at_int HR1.out x5_1)
      cases e102
      go_wp2
      repeat (go_quiet (fail);try go_wp2)
      go_ret
      exact ⟨aH,by repeat (first|exact gH.refl _|apply bF)⟩
    ·obtain rfl:=Option.some.inj H
     go_wp2
     go_ret
     exact ⟨aH,by repeat (first|exact gH.refl _|apply bF)⟩
 ·have c3b0:((l0.length:Int)==(l1.length:Int))=false:=beq_eq_false_iff_ne.mpr c3
  have c3b1:((l0.length:Int) != (l1.length:Int))=true:=bne_iff_ne.mpr c3
  have c3b2:(l0.length==l1.length)=false:=by first|simpa using c3|(simp at c3 ⊢;omega)
  obtain rfl:=Option.some.inj H
  go_enter Tryz.func18,Tryz.ntmps18
  go_wp2
  go_ret
  exact ⟨aH,by repeat (first|exact gH.refl _|apply bF)⟩
/-! ### spec_l16Put: function 50 -/
def eH:Nat→List Int→Int→Int→Option (List Int)
 | 0,_,_,_=>none
 | k+1,x0,x1,x5=>if x5 > 0 then (if 0≤(wrap64 (x5-1)) then (if (wrap64 (x5-1))<(x0.length:Int) then (if (rd x0 (wrap64 (x5-1))) > x1 then (eH k x0 x1 (wrap64 (x5-1))) else ((some (([]:List Int):List Int)).bind fun y102=>(if 0≤x5 then (if x5≤(x0.length:Int) then ((some (x0.drop (x5:Int).toNat:List Int)).bind fun y105=>(if y102.length+y105.length<17592186044416 then ((some (y102++y105:List Int)).bind fun y109=>((some (x0.take (x5:Int).toNat:List Int)).bind fun y112=>(if y112.length<17592186044416 then ((some (y112++[x1]:List Int)).bind fun y115=>(if y115.length+y109.length<17592186044416 then (some (y115++y109)) else (none))) else (none)))) else (none))) else (none)) else (none)))) else (none)) else (none)) else ((some (([]:List Int):List Int)).bind fun y121=>(if 0≤x5 then (if x5≤(x0.length:Int) then ((some (x0.drop (x5:Int).toNat:List Int)).bind fun y124=>(if y121.length+y124.length<17592186044416 then ((some (y121++y124:List Int)).bind fun y128=>((some (x0.take (x5:Int).toNat:List Int)).bind fun y131=>(if y131.length<17592186044416 then ((some (y131++[x1]:List Int)).bind fun y134=>(if y134.length+y128.length<17592186044416 then (some (y134++y128)) else (none))) else (none)))) else (none))) else (none)) else (none)))
def spec_l16Put.f (k:Nat) (l0:List Int) (a1:Int):Option (List Int):=eH k l0 a1 (l0.length:Int)
theorem MG {α:Type} {d:Kd α} {e base n c:Nat} {w:World} {ok:Nat→Prop} {xs:List α} (h:d.R e w base ok (.slice none n c) xs):xs=[]∧c=0:=by
 obtain ⟨_,inner,ho,hr⟩:=h
 rcases ho.2 with ⟨hv,hn⟩|⟨g,cap,cur,hv,_⟩
 ·injection hv with _ h2 h3
  exact ⟨List.eq_nil_of_length_eq_zero hn,h3⟩
 ·cases hv
set_option maxHeartbeats 4000000 in
set_option maxRecDepth 100000 in
theorem uR (a1:Int) (w:World) :
  Calls Tryz.prog 50 #[.slice none 0 0,.int .i64 a1] w fun e w'=>∃ v0_:Value,e=.returned (v0_)∧Kd.R (Kd.int .i64) 3 w' w.heap.size (fun _=>True) v0_ [a1]∧Below w.heap.size w w':=by
 have HB:=aE (Below.refl w.heap.size w)
 go_enter Tryz.func50,Tryz.ntmps50
 go_wp2
 go_loopg [5] 1 (fun kq v5 w'=>v5=.int .i64 0∧w'=w)
 case atStart=>exact ⟨rfl,rfl⟩
 case round =>
  obtain ⟨rfl,rfl⟩:=hrel
  go_wp2_with (first|((with_reducible refine aN (N:=22) rfl ?_);refine Kd.R_lit (Kd.int .i64) _ 3 ?hg (N:=22) ?hd (xs:=([]:List Int)) (inner:=[]) (ok:=fun _=>True) (okp:=fun _=>True) ?hr ?hp (fun _ hk=>hk) trivial (Below.refl _ _) (Nat.le_refl _) (by simp) ?_;(case hd=>rfl);(case hg=>rfl);(case hr=>first|(go_simp;done)|(go_simp;rfl));(case hp=>exact (kC.none _ _));intro v1 w1 ho hb hg_ hnew_;clear hg_ hnew_;have m0_:=aE hb;have m1_:=aE ho;clear HB ho hb;have HB:=m0_;have HO1:=m1_;clear m0_ m1_)|((with_reducible refine cT (b:=.append) (xs:=#[.tmp 22,.tmp 25]) rfl ?_);at_builtin;refine Kd.R_append_rows (Kd.int .i64) (w0:=wr) wr.heap.size rfl (.tmp 22) (.tmp 25) 33 3 (.int .i64 0) 8 rfl Tryz.underlying33 mO rfl (by decide) (by omega) v1 [] [] none 0 0 (fun _=>True) (fun _=>False) rfl rfl HO1.out (Kd.C_nil (Kd.int .i64) _) (fun _ _ h=>h) (fun _ h=>h.elim) (fun _ _=>trivial) HB.out (aT HB.out) (by simp) ?_;intro v2 w2 ho hb hg hat;have m0_:=aE hb;have m1_:=aE ho;clear HB HO1 ho hb hg hat;have HB:=m0_;have HO2:=m1_;clear m0_ m1_;obtain ⟨A2,c2,e2⟩:=Kd.R_slice HO2.out;subst e2)|((with_reducible refine cT (b:=.append) (xs:=#[.tmp 29,.tmp 31]) rfl ?_);at_builtin;refine Kd.R_append (Kd.int .i64) (w0:=wr) wr.heap.size rfl (.tmp 29) (.tmp 31) 33 3 (.int .i64 0) 8 rfl Tryz.underlying33 mO rfl (by decide) (by omega) (.slice none 0 0) [] a1 [.int .i64 a1] (fun k_=>some k_≠(.slice A2 (([]:List Int)++[]).length c2:Value).ownBlock) (fun _=>False) rfl rfl rfl (fun _ hk=>hk.elim) (Kd.fresh' (Kd.R_lt HO2.out)) (Kd.R_nil _ _ _ _ _) HB.out (aT HB.out) (by simp) ?_;intro v3 w3 ho hb hg hat;have m0_:=aE hb;have m1_:=aE ho;have m2_:=aE (Kd.R_grown HO2.out hg (fun _ _ h_=>by cases h_));clear HB HO2 ho hb hg hat;have HB:=m0_;have HO3:=m1_;clear m0_ m1_;have HO2:=m2_;clear m2_)|((with_reducible refine cT (b:=.append) (xs:=#[.tmp 32,.tmp 33]) rfl ?_);at_builtin;refine Kd.R_append_rows (Kd.int .i64) (w0:=wr) wr.heap.size rfl (.tmp 32) (.tmp 33) 33 3 (.int .i64 0) 8 rfl Tryz.underlying33 mO rfl (by decide) (by omega) v3 [a1] [] A2 0 c2 (fun _=>True) (fun _=>False) rfl rfl (Kd.R_mono HO3.out (fun _ _=>trivial)) (Kd.R_reads' HO2.out).2.2 (fun _ _ h=>h) (fun _ h=>h.elim) (fun _ _=>trivial) HB.out (aT HB.out) (by simp) ?_;intro v4 w4 ho hb hg hat;have m0_:=aE hb;have m1_:=aE ho;clear HB HO2 HO3 ho hb hg hat;have HB:=m0_;have HO4:=m1_;clear m0_ m1_))
  go_ret
  exact ⟨_,rfl,HO4.out,HB.out⟩
set_option maxHeartbeats 8000000 in
set_option maxRecDepth 100000 in
theorem zJ (k:Nat) (P0_:Nat→Prop) (u9000_:Value) (l0:List Int) (a1:Int) (r:List Int) (w0 w:World) (hB:Below w0.heap.size w0 w) (ho0:Kd.R (Kd.int .i64) 3 w w0.heap.size P0_ u9000_ l0) (h:spec_l16Put.f k l0 a1=some r) :
  Calls Tryz.prog 50 #[u9000_,.int .i64 a1] w fun e w'=>∃ v0_:Value,e=.returned (v0_)∧Kd.R (Kd.int .i64) 3 w' w0.heap.size (fun k_=>(P0_ k_∨w.heap.size≤k_)) v0_ r∧Below w0.heap.size w0 w'∧lY w w' (fun k_=>P0_ k_):=by
 have HO0:=aE (show Kd.R (Kd.int .i64) 3 w w0.heap.size (fun k_=>(P0_ k_∨w.heap.size≤k_)) u9000_ l0 from Kd.R_mono ho0 (fun k_ hk=>(.inl hk)))
 have HK:=aE (lY.refl w (fun k_=>P0_ k_))
 have HW0:=aE hB.size
 have HB:=aE hB
 clear hB
 unfold spec_l16Put.f at h
 have H:=h
 clear h
 have H':=aE H
 clear H
 obtain ⟨Ao3,co3,eo3⟩:=Kd.R_slice HO0.out
 subst eo3
 cases Ao3 with
 | none =>
  obtain ⟨hl_,uV⟩:=MG HO0.out
  subst hl_
  subst uV
  have hr_:r=[a1]:=by
   have h_:=H'.out
   cases k with
   | zero=>simp [eH] at h_
   | succ k=>simpa [eH] using h_.symm
  subst hr_
  refine (uR a1 w).mono ?_
  rintro e w' ⟨v_,rfl,hR_,hb_⟩
  exact ⟨v_,rfl,Kd.R_lower (Kd.R_mono (Kd.R_bound hR_) (fun k_ hk_=>.inr hk_.2.1)) HB.out.size,aD HB.out hb_,xF hb_ _⟩
 | some ao_ =>
  go_enter Tryz.func50,Tryz.ntmps50
  go_wp2
  go_loopg [5] k (fun kq v5 w'=>∃ (x5_1:Int),v5=.int .i64 x5_1∧Aside0 (eH kq l0 a1 x5_1=some r)∧Aside0 (kq≤k)∧Aside0 (Kd.R (Kd.int .i64) 3 w' w0.heap.size (fun k_=>(P0_ k_∨w.heap.size≤k_)) (.slice (some ao_) l0.length co3) l0)∧Aside0 (lY w w' (fun k_=>P0_ k_))∧Aside0 (Below w0.heap.size w0 w'))
  case atStart=>exact ⟨((l0.length:Int)),aH,H',⟨Nat.le_refl _⟩,⟨bN HO0⟩,⟨by repeat (first|(with_reducible first|exact HK.out|apply lY.alloc|apply lY.drewN|apply lY.drew)|exact HK.out)⟩,⟨aX HB⟩⟩
  case round =>
   clear H'
   obtain ⟨x5_1,rfl,HA,HK1,HO_0,HK,HB⟩:=hrel
   cases gk with
   | zero=>exact absurd HA.out (by simp [eH])
   | succ k1 =>
    have H:=HA.out
    clear HA
    simp only [eH] at H
    rcases eV H with ⟨c4b0,H⟩|⟨c4b0,H⟩
    ·obtain ⟨ji5,hji5⟩:∃ j_:Int,(wrap64 (x5_1-1))=j_:=⟨_,rfl⟩
     replace H:(if 0≤(ji5) then (if (ji5)<(l0.length:Int) then (if (rd l0 (ji5)) > a1 then (eH k1 l0 a1 ji5) else ((some (([]:List Int):List Int)).bind fun y102=>(if 0≤x5_1 then (if x5_1≤(l0.length:Int) then ((some (l0.drop (x5_1:Int).toNat:List Int)).bind fun y105=>(if y102.length+y105.length<17592186044416 then ((some (y102++y105:List Int)).bind fun y109=>((some (l0.take (x5_1:Int).toNat:List Int)).bind fun y112=>(if y112.length<17592186044416 then ((some (y112++[a1]:List Int)).bind fun y115=>(if y115.length+y109.length<17592186044416 then (some (y115++y109)) else (none))) else (none)))) else (none))) else (none)) else (none)))) else (none)) else (none))=some r:=by first|(rw [hji5] at H;exact H)|(simp only [hji5] at H ⊢;exact H)
     have hji5w:(IntKind.i64.wrap (x5_1-1))=ji5:=(cC _).trans hji5
     obtain ⟨c6b0,H⟩:=cV H
     obtain ⟨c7b0,H⟩:=cV H
     rcases eV H with ⟨c8b0,H⟩|⟨c8b0,H⟩
     ·have H':=aE H
      clear H
      obtain ⟨p101,q101,ad101,e101,hx101_0⟩:=jP (Kd.at_int (Kd.R_reads' HO_0.out).2.2 (ji5))
      cases e101
      go_wp2
      go_roundg k1
      case measure=>have:=HK1.out;omega
      case rel=>exact ⟨(ji5),(by first|rfl|(simp;done)|(simp only [← hji5] <;> (first|rfl|simp))|(simp [*];done)),H',⟨by have:=HK1.out;omega⟩,⟨bN HO_0⟩,⟨by repeat (first|(with_reducible first|exact HK.out|apply lY.alloc|apply lY.drewN|apply lY.drew)|exact HK.out)⟩,⟨aX HB⟩⟩
     ·obtain ⟨y102,hy102⟩:∃ y_:List Int,y_=(([]:List Int)):=⟨_,rfl⟩
      first|(with_reducible replace H:=oO hy102 H)|(with_reducible replace H:=oP hy102 H)|rw [← hy102] at H
      have Ny102:=aE hy102
      clear hy102
      obtain ⟨c9,H⟩:=gQ H
      have c9b0:=eq_true c9
      have c9b1:=decide_eq_true c9
      clear c9
      obtain ⟨c10,H⟩:=gQ H
      have c10b0:=eq_true c10
      have c10b1:=decide_eq_true c10
      clear c10
      obtain ⟨y105,hy105⟩:∃ y_:List Int,y_=(l0.drop (x5_1:Int).toNat):=⟨_,rfl⟩
      first|(with_reducible replace H:=oO hy105 H)|(with_reducible replace H:=oP hy105 H)|rw [← hy105] at H
      have Ny105:=aE hy105
      clear hy105
      obtain ⟨c11,H⟩:=gQ H
      have LMc11:=aE c11
      clear c11
      obtain ⟨y109,hy109⟩:∃ y_:List Int,y_=(y102++y105):=⟨_,rfl⟩
      first|(with_reducible replace H:=oO hy109 H)|(with_reducible replace H:=oP hy109 H)|rw [← hy109] at H
      have Ny109:=aE hy109
      clear hy109
      have c12b0:=eq_true (bI:x5_1≤(l0.length:Int))
      obtain ⟨y112,hy112⟩:∃ y_:List Int,y_=(l0.take (x5_1:Int).toNat):=⟨_,rfl⟩
      first|(with_reducible replace H:=oO hy112 H)|(with_reducible replace H:=oP hy112 H)|rw [← hy112] at H
      have Ny112:=aE hy112
      clear hy112
      obtain ⟨c13,H⟩:=gQ H
      have LMc13:=aE c13
      clear c13
      obtain ⟨y115,hy115⟩:∃ y_:List Int,y_=(y112++[a1]):=⟨_,rfl⟩
      first|(with_reducible replace H:=oO hy115 H)|(with_reducible replace H:=oP hy115 H)|rw [← hy115] at H
      have Ny115:=aE hy115
      clear hy115
      obtain ⟨c14,H⟩:=gQ H
      have LMc14:=aE c14
      clear c14
      obtain ⟨y118,hy118⟩:∃ y_:List Int,y_=(y115++y109):=⟨_,rfl⟩
      first|(with_reducible replace H:=oO hy118 H)|(with_reducible replace H:=oP hy118 H)|rw [← hy118] at H
      have Ny118:=aE hy118
      clear hy118
      obtain rfl:=Option.some.inj H
      obtain ⟨p101,q101,ad101,e101,hx101_0⟩:=jP (Kd.at_int (Kd.R_reads' HO_0.out).2.2 (ji5))
      cases e101
      go_wp2_with (first|((with_reducible refine aN (N:=22) rfl ?_);refine Kd.R_lit (Kd.int .i64) _ 3 ?hg (N:=22) ?hd (xs:=([]:List Int)) (inner:=[]) (ok:=fun _=>True) (okp:=fun _=>True) ?hr ?hp (fun _ hk=>hk) trivial (Below.refl _ _) (Nat.le_refl _) (by simp) ?_;(case hd=>rfl);(case hg=>rfl);(case hr=>first|(go_simp;done)|(go_simp;rfl));(case hp=>exact (kC.none _ _));intro v103 w15 ho16 hb hg_ hnew_;clear hg_ hnew_;(first|rw [← Ny102.out] at ho16|(simp only [Int.reduceToNat] at ho16;rw [← Ny102.out] at ho16));have HO104:=aE (Kd.R_lower (Kd.R_new' (Kd.R_newM (M:=fun k_=>(P0_ k_∨w.heap.size≤k_)) ho16 (by first|exact HK.out.1|exact (show lY w _ (fun k_=>P0_ k_) from by repeat (first|(with_reducible first|exact HK.out|apply lY.alloc|apply lY.drewN|apply lY.drew)|exact HK.out)).1) (fun k_ h_=>.inr h_)) (Kd.R_lt (bN HO_0))) (aT (aX HB)));replace HO_0:=aE (Kd.R_elder' (bN HO_0) (Kd.R_base ho16) hb);replace HK:=aE (lY.below (S:=(fun k_=>P0_ k_)) (by repeat (first|(with_reducible first|exact HK.out|apply lY.alloc|apply lY.drewN|apply lY.drew)|exact HK.out)) hb);replace HB:=aE (aD (aX HB) hb);clear hb ho16;have q17:(x5_1:Int)≤((l0.length:Int):Int):=bI;obtain ⟨i017,hi017,_,hsz17,_⟩:=info_parts mO;have hroom17:l0.length≤co3:=(Kd.R_reads' HO_0.out).2.1;have hC17:Kd.C (Kd.int .i64) _ (some ao_) l0.length l0:=(Kd.R_reads' HO_0.out).2.2;have q017:(0:Int)≤(x5_1:Int):=bI;have hcut17:=JK (P:=Tryz.prog) 33 3 .i64 Tryz.underlying33 hi017 1 hsz17 (some ao_) l0.length co3 x5_1 q017 q17;have hr17:=Kd.C_drop (m:=(x5_1:Int).toNat) (c:=co3) hC17 (by omega) hroom17;obtain ⟨A17,hA17⟩:∃ A1,A1=(if co3=(x5_1:Int).toNat then (some ao_) else ((some ao_):Option Addr).map (·.add ((x5_1:Int).toNat*1))):=⟨_,rfl⟩;obtain ⟨c17,hc17⟩:∃ c1,c1=co3-(x5_1:Int).toNat:=⟨_,rfl⟩;have hy17:y105.length=l0.length-(x5_1:Int).toNat:=(by rw [Ny105.out,List.length_drop] <;> omega);rw [show (l0).drop (x5_1:Int).toNat=y105 from Ny105.out.symm] at hr17;replace hr17:Kd.C (Kd.int .i64) _ A17 y105.length y105:=(by rw [hA17];exact hr17);rw [← hy17,← hA17,← hc17] at hcut17;have HR108:=aE hr17;have HC108:=aE (show y105.length≤c17 from by rw [hy17,hc17];exact Nat.sub_le_sub_right hroom17 _);clear hr17 hC17 hroom17 hi017 hsz17 hc17;have KY17:=aE hy17;have KA17:=aE hA17;clear hy17 hA17;have KL17:=aE (show (x5_1:Int).toNat≤l0.length from by omega);replace q17:=eq_true q17)|((with_reducible refine cT (b:=.append) (xs:=#[.tmp 22,.tmp 25]) rfl ?_);at_builtin;refine Kd.R_append_rows (Kd.int .i64) (w0:=w0) w0.heap.size rfl (.tmp 22) (.tmp 25) 33 3 (.int .i64 0) 8 rfl Tryz.underlying33 mO rfl (by decide) (by omega) v103 y102 y105 _ _ _ (fun k_=>(P0_ k_∨w.heap.size≤k_)∧some k_≠(.slice (some ao_) l0.length co3:Value).ownBlock) (fun _=>False) rfl rfl ?aO ?aR (fun _ _ h=>h) (fun _ h=>h.elim) ?aF ?aB ?aS ?aL ?_;(case aR=>repeat (first|exact (by repeat (first|(with_reducible exact HR108.out)|(with_reducible refine Kd.C_alloc ?_ _)|(with_reducible refine Kd.C_drewN ?_ _)|(with_reducible refine Kd.C_drew ?_)|exact HR108.out))|(with_reducible refine Kd.C_alloc ?_ _)|(with_reducible refine Kd.C_drewN ?_ _)|(with_reducible refine Kd.C_drew ?_)));(case aB=>exact (aX HB));(case aF=>exact (fun k_ hk=>⟨(.inr (Nat.le_trans (by first|exact HK.out.1|exact (show lY w _ (fun k_=>P0_ k_) from by repeat (first|(with_reducible first|exact HK.out|apply lY.alloc|apply lY.drewN|apply lY.drew)|exact HK.out)).1) hk)),Kd.fresh' (Kd.R_lt (bN HO_0)) k_ hk⟩));(case aO=>exact (by (with_reducible repeat (first|apply kD|apply kE|apply gU));exact Kd.R_mono HO104.out (fun _ hk=>⟨hk.1.1,hk.2⟩)));(case aS=>exact (aT (aX HB)));(case aL=>have:=LMc11.out;omega);intro v110 w18 ho hb hg hat;rw [← Ny109.out] at ho;replace HB:=aE (hb);replace HK:=aE (lA (S:=(fun k_=>P0_ k_)) hg (by repeat (first|(with_reducible first|exact HK.out|apply lY.alloc|apply lY.drewN|apply lY.drew)|exact HK.out)) (fun k_ e_=>(HO104.out.1 k_ e_).1.1));replace HR108:=aE ((show Kd.C (Kd.int .i64) w18 A17 y105.length y105 from by rw [Ny105.out,KA17.out];exact Kd.C_drop (m:=(x5_1:Int).toNat) (c:=co3) ((Kd.R_reads' (Kd.R_after (ok:=(fun k_=>(P0_ k_∨w.heap.size≤k_))) (bN HO_0) hg hat)).2.2) KL17.out ((Kd.R_reads' (Kd.R_after (ok:=(fun k_=>(P0_ k_∨w.heap.size≤k_))) (bN HO_0) hg hat)).2.1)));replace HO_0:=aE (Kd.R_after (ok:=(fun k_=>(P0_ k_∨w.heap.size≤k_))) (bN HO_0) hg hat);have HO111:=aE (ho);clear HO104;clear ho hb hg hat;have q19:(x5_1:Int)≤((l0.length:Int):Int):=bI;obtain ⟨i019,hi019,_,hsz19,_⟩:=info_parts mO;have hcut19:=QX (P:=Tryz.prog) 33 3 .i64 Tryz.underlying33 hi019 (some ao_) l0.length co3 x5_1 (bI) q19 (Kd.R_reads' HO_0.out).2.1;have hr19:=Kd.R_take (m:=(x5_1:Int).toNat) HO_0.out (by omega);have hy19:y112.length=(x5_1:Int).toNat:=(by rw [Ny112.out,List.length_take];omega);rw [← Ny112.out] at hr19;rw [← hy19] at hr19 hcut19;clear hy19 hi019 hsz19 HO_0;have HO114:=aE hr19;clear hr19;replace q19:=eq_true q19)|((with_reducible refine cT (b:=.append) (xs:=#[.tmp 29,.tmp 31]) rfl ?_);at_builtin;refine Kd.R_append (Kd.int .i64) (w0:=w0) w0.heap.size rfl (.tmp 29) (.tmp 31) 33 3 (.int .i64 0) 8 rfl Tryz.underlying33 mO rfl (by decide) (by omega) (.slice (some ao_) y112.length co3) y112 a1 [.int .i64 a1] (fun k_=>(P0_ k_∨w.heap.size≤k_)∧some k_≠(v110:Value).ownBlock) (fun _=>False) rfl rfl ?aP (fun _ hk=>hk.elim) ?aF ?aO ?aB ?aS ?aL ?_;(case aP=>exact rfl);(case aB=>exact (aX HB));(case aF=>exact (fun k_ hk=>⟨(.inr (Nat.le_trans (by first|exact HK.out.1|exact (show lY w _ (fun k_=>P0_ k_) from by repeat (first|(with_reducible first|exact HK.out|apply lY.alloc|apply lY.drewN|apply lY.drew)|exact HK.out)).1) hk)),Kd.fresh' (Kd.R_lt (bN HO111)) k_ hk⟩));(case aO=>exact (bN HO114));(case aS=>exact (aT (aX HB)));(case aL=>have:=LMc13.out;omega);intro v116 w20 ho hb hg hat;rw [← Ny115.out] at ho;replace HO111:=aE (Kd.R_after (ok:=(fun k_=>(P0_ k_∨w.heap.size≤k_))) (bN HO111) hg hat);replace HB:=aE (hb);replace HK:=aE (lA (S:=(fun k_=>P0_ k_)) hg (by repeat (first|(with_reducible first|exact HK.out|apply lY.alloc|apply lY.drewN|apply lY.drew)|exact HK.out)) (fun k_ e_=>(HO114.out.1 k_ e_).1));have HO117:=aE (ho);clear HO114;clear ho hb hg hat;obtain ⟨Ao22,co22,eo22⟩:=Kd.R_slice HO111.out;subst eo22)|((with_reducible refine cT (b:=.append) (xs:=#[.tmp 32,.tmp 33]) rfl ?_);at_builtin;refine Kd.R_append_rows (Kd.int .i64) (w0:=w0) w0.heap.size rfl (.tmp 32) (.tmp 33) 33 3 (.int .i64 0) 8 rfl Tryz.underlying33 mO rfl (by decide) (by omega) v116 y115 y109 _ _ _ (fun k_=>(P0_ k_∨w.heap.size≤k_)∧some k_≠(.slice Ao22 y109.length co22:Value).ownBlock) (fun _=>False) rfl rfl ?aO ?aR (fun _ _ h=>h) (fun _ h=>h.elim) ?aF ?aB ?aS ?aL ?_;(case aR=>repeat (first|exact (Kd.R_reads' HO111.out).2.2|(with_reducible refine Kd.C_alloc ?_ _)|(with_reducible refine Kd.C_drewN ?_ _)|(with_reducible refine Kd.C_drew ?_)));(case aB=>exact (aX HB));(case aF=>exact (fun k_ hk=>⟨(.inr (Nat.le_trans (by first|exact HK.out.1|exact (show lY w _ (fun k_=>P0_ k_) from by repeat (first|(with_reducible first|exact HK.out|apply lY.alloc|apply lY.drewN|apply lY.drew)|exact HK.out)).1) hk)),Kd.fresh' (Kd.R_lt (bN HO111)) k_ hk⟩));(case aO=>exact (bN HO117));(case aS=>exact (aT (aX HB)));(case aL=>have:=LMc14.out;omega);intro v119 w21 ho hb hg hat;rw [← Ny118.out] at ho;replace HO111:=aE (Kd.R_after (ok:=(fun k_=>(P0_ k_∨w.heap.size≤k_))) (bN HO111) hg hat);replace HB:=aE (hb);replace HK:=aE (lA (S:=(fun k_=>P0_ k_)) hg (by repeat (first|(with_reducible first|exact HK.out|apply lY.alloc|apply lY.drewN|apply lY.drew)|exact HK.out)) (fun k_ e_=>(HO117.out.1 k_ e_).1));have HO120:=aE (ho);clear HO117;clear ho hb hg hat))
      go_ret
      exact ⟨_,by first|rfl|(simp [cG,cI] <;> rfl)|(simp only [← hji5];first|rfl|(simp [cG,cI] <;> rfl))|(simp [*,cG,cI] <;> rfl),by (with_reducible repeat (first|apply kD|apply kE|apply gU));exact Kd.R_mono HO120.out (fun _ hk=>hk.1),aX HB,by repeat (first|(with_reducible first|exact HK.out|apply lY.alloc|apply lY.drewN|apply lY.drew)|exact HK.out)⟩
    ·obtain ⟨y121,hy121⟩:∃ y_:List Int,y_=(([]:List Int)):=⟨_,rfl⟩
     first|(with_reducible replace H:=oO hy121 H)|(with_reducible replace H:=oP hy121 H)|rw [← hy121] at H
     have Ny121:=aE hy121
     clear hy121
     obtain ⟨c23,H⟩:=gQ H
     have c23b0:=eq_true c23
     have c23b1:=decide_eq_true c23
     clear c23
     obtain ⟨c24,H⟩:=gQ H
     have c24b0:=eq_true c24
     have c24b1:=decide_eq_true c24
     clear c24
     obtain ⟨y124,hy124⟩:∃ y_:List Int,y_=(l0.drop (x5_1:Int).toNat):=⟨_,rfl⟩
     first|(with_reducible replace H:=oO hy124 H)|(with_reducible replace H:=oP hy124 H)|rw [← hy124] at H
     have Ny124:=aE hy124
     clear hy124
     obtain ⟨c25,H⟩:=gQ H
     have LMc25:=aE c25
     clear c25
     obtain ⟨y128,hy128⟩:∃ y_:List Int,y_=(y121++y124):=⟨_,rfl⟩
     first|(with_reducible replace H:=oO hy128 H)|(with_reducible replace H:=oP hy128 H)|rw [← hy128] at H
     have Ny128:=aE hy128
     clear hy128
     have c26b0:=eq_true (bI:x5_1≤(l0.length:Int))
     obtain ⟨y131,hy131⟩:∃ y_:List Int,y_=(l0.take (x5_1:Int).toNat):=⟨_,rfl⟩
     first|(with_reducible replace H:=oO hy131 H)|(with_reducible replace H:=oP hy131 H)|rw [← hy131] at H
     have Ny131:=aE hy131
     clear hy131
     obtain ⟨c27,H⟩:=gQ H
     have LMc27:=aE c27
     clear c27
     obtain ⟨y134,hy134⟩:∃ y_:List Int,y_=(y131++[a1]):=⟨_,rfl⟩
     first|(with_reducible replace H:=oO hy134 H)|(with_reducible replace H:=oP hy134 H)|rw [← hy134] at H
     have Ny134:=aE hy134
     clear hy134
     obtain ⟨c28,H⟩:=gQ H
     have LMc28:=aE c28
     clear c28
     obtain ⟨y137,hy137⟩:∃ y_:List Int,y_=(y134++y128):=⟨_,rfl⟩
     first|(with_reducible replace H:=oO hy137 H)|(with_reducible replace H:=oP hy137 H)|rw [← hy137] at H
     have Ny137:=aE hy137
     clear hy137
     obtain rfl:=Option.some.inj H
     go_wp2_with (first|((with_reducible refine aN (N:=22) rfl ?_);refine Kd.R_lit (Kd.int .i64) _ 3 ?hg (N:=22) ?hd (xs:=([]:List Int)) (inner:=[]) (ok:=fun _=>True) (okp:=fun _=>True) ?hr ?hp (fun _ hk=>hk) trivial (Below.refl _ _) (Nat.le_refl _) (by simp) ?_;(case hd=>rfl);(case hg=>rfl);(case hr=>first|(go_simp;done)|(go_simp;rfl));(case hp=>exact (kC.none _ _));intro v122 w29 ho30 hb hg_ hnew_;clear hg_ hnew_;(first|rw [← Ny121.out] at ho30|(simp only [Int.reduceToNat] at ho30;rw [← Ny121.out] at ho30));have HO123:=aE (Kd.R_lower (Kd.R_new' (Kd.R_newM (M:=fun k_=>(P0_ k_∨w.heap.size≤k_)) ho30 (by first|exact HK.out.1|exact (show lY w _ (fun k_=>P0_ k_) from by repeat (first|(with_reducible first|exact HK.out|apply lY.alloc|apply lY.drewN|apply lY.drew)|exact HK.out)).1) (fun k_ h_=>.inr h_)) (Kd.R_lt (bN HO_0))) (aT (aX HB)));replace HO_0:=aE (Kd.R_elder' (bN HO_0) (Kd.R_base ho30) hb);replace HK:=aE (lY.below (S:=(fun k_=>P0_ k_)) (by repeat (first|(with_reducible first|exact HK.out|apply lY.alloc|apply lY.drewN|apply lY.drew)|exact HK.out)) hb);replace HB:=aE (aD (aX HB) hb);clear hb ho30;have q31:(x5_1:Int)≤((l0.length:Int):Int):=bI;obtain ⟨i031,hi031,_,hsz31,_⟩:=info_parts mO;have hroom31:l0.length≤co3:=(Kd.R_reads' HO_0.out).2.1;have hC31:Kd.C (Kd.int .i64) _ (some ao_) l0.length l0:=(Kd.R_reads' HO_0.out).2.2;have q031:(0:Int)≤(x5_1:Int):=bI;have hcut31:=JK (P:=Tryz.prog) 33 3 .i64 Tryz.underlying33 hi031 1 hsz31 (some ao_) l0.length co3 x5_1 q031 q31;have hr31:=Kd.C_drop (m:=(x5_1:Int).toNat) (c:=co3) hC31 (by omega) hroom31;obtain ⟨A31,hA31⟩:∃ A1,A1=(if co3=(x5_1:Int).toNat then (some ao_) else ((some ao_):Option Addr).map (·.add ((x5_1:Int).toNat*1))):=⟨_,rfl⟩;obtain ⟨c31,hc31⟩:∃ c1,c1=co3-(x5_1:Int).toNat:=⟨_,rfl⟩;have hy31:y124.length=l0.length-(x5_1:Int).toNat:=(by rw [Ny124.out,List.length_drop] <;> omega);rw [show (l0).drop (x5_1:Int).toNat=y124 from Ny124.out.symm] at hr31;replace hr31:Kd.C (Kd.int .i64) _ A31 y124.length y124:=(by rw [hA31];exact hr31);rw [← hy31,← hA31,← hc31] at hcut31;have HR127:=aE hr31;have HC127:=aE (show y124.length≤c31 from by rw [hy31,hc31];exact Nat.sub_le_sub_right hroom31 _);clear hr31 hC31 hroom31 hi031 hsz31 hc31;have KY31:=aE hy31;have KA31:=aE hA31;clear hy31 hA31;have KL31:=aE (show (x5_1:Int).toNat≤l0.length from by omega);replace q31:=eq_true q31)|((with_reducible refine cT (b:=.append) (xs:=#[.tmp 22,.tmp 25]) rfl ?_);at_builtin;refine Kd.R_append_rows (Kd.int .i64) (w0:=w0) w0.heap.size rfl (.tmp 22) (.tmp 25) 33 3 (.int .i64 0) 8 rfl Tryz.underlying33 mO rfl (by decide) (by omega) v122 y121 y124 _ _ _ (fun k_=>(P0_ k_∨w.heap.size≤k_)∧some k_≠(.slice (some ao_) l0.length co3:Value).ownBlock) (fun _=>False) rfl rfl ?aO ?aR (fun _ _ h=>h) (fun _ h=>h.elim) ?aF ?aB ?aS ?aL ?_;(case aR=>repeat (first|exact (by repeat (first|(with_reducible exact HR127.out)|(with_reducible refine Kd.C_alloc ?_ _)|(with_reducible refine Kd.C_drewN ?_ _)|(with_reducible refine Kd.C_drew ?_)|exact HR127.out))|(with_reducible refine Kd.C_alloc ?_ _)|(with_reducible refine Kd.C_drewN ?_ _)|(with_reducible refine Kd.C_drew ?_)));(case aB=>exact (aX HB));(case aF=>exact (fun k_ hk=>⟨(.inr (Nat.le_trans (by first|exact HK.out.1|exact (show lY w _ (fun k_=>P0_ k_) from by repeat (first|(with_reducible first|exact HK.out|apply lY.alloc|apply lY.drewN|apply lY.drew)|exact HK.out)).1) hk)),Kd.fresh' (Kd.R_lt (bN HO_0)) k_ hk⟩));(case aO=>exact (by (with_reducible repeat (first|apply kD|apply kE|apply gU));exact Kd.R_mono HO123.out (fun _ hk=>⟨hk.1.1,hk.2⟩)));(case aS=>exact (aT (aX HB)));(case aL=>have:=LMc25.out;omega);intro v129 w32 ho hb hg hat;rw [← Ny128.out] at ho;replace HB:=aE (hb);replace HK:=aE (lA (S:=(fun k_=>P0_ k_)) hg (by repeat (first|(with_reducible first|exact HK.out|apply lY.alloc|apply lY.drewN|apply lY.drew)|exact HK.out)) (fun k_ e_=>(HO123.out.1 k_ e_).1.1));replace HR127:=aE ((show Kd.C (Kd.int .i64) w32 A31 y124.length y124 from by rw [Ny124.out,KA31.out];exact Kd.C_drop (m:=(x5_1:Int).toNat) (c:=co3) ((Kd.R_reads' (Kd.R_after (ok:=(fun k_=>(P0_ k_∨w.heap.size≤k_))) (bN HO_0) hg hat)).2.2) KL31.out ((Kd.R_reads' (Kd.R_after (ok:=(fun k_=>(P0_ k_∨w.heap.size≤k_))) (bN HO_0) hg hat)).2.1)));replace HO_0:=aE (Kd.R_after (ok:=(fun k_=>(P0_ k_∨w.heap.size≤k_))) (bN HO_0) hg hat);have HO130:=aE (ho);clear HO123;clear ho hb hg hat;have q33:(x5_1:Int)≤((l0.length:Int):Int):=bI;obtain ⟨i033,hi033,_,hsz33,_⟩:=info_parts mO;have hcut33:=QX (P:=Tryz.prog) 33 3 .i64 Tryz.underlying33 hi033 (some ao_) l0.length co3 x5_1 (bI) q33 (Kd.R_reads' HO_0.out).2.1;have hr33:=Kd.R_take (m:=(x5_1:Int).toNat) HO_0.out (by omega);have hy33:y131.length=(x5_1:Int).toNat:=(by rw [Ny131.out,List.length_take];omega);rw [← Ny131.out] at hr33;rw [← hy33] at hr33 hcut33;clear hy33 hi033 hsz33 HO_0;have HO133:=aE hr33;clear hr33;replace q33:=eq_true q33)|((with_reducible refine cT (b:=.append) (xs:=#[.tmp 29,.tmp 31]) rfl ?_);at_builtin;refine Kd.R_append (Kd.int .i64) (w0:=w0) w0.heap.size rfl (.tmp 29) (.tmp 31) 33 3 (.int .i64 0) 8 rfl Tryz.underlying33 mO rfl (by decide) (by omega) (.slice (some ao_) y131.length co3) y131 a1 [.int .i64 a1] (fun k_=>(P0_ k_∨w.heap.size≤k_)∧some k_≠(v129:Value).ownBlock) (fun _=>False) rfl rfl ?aP (fun _ hk=>hk.elim) ?aF ?aO ?aB ?aS ?aL ?_;(case aP=>exact rfl);(case aB=>exact (aX HB));(case aF=>exact (fun k_ hk=>⟨(.inr (Nat.le_trans (by first|exact HK.out.1|exact (show lY w _ (fun k_=>P0_ k_) from by repeat (first|(with_reducible first|exact HK.out|apply lY.alloc|apply lY.drewN|apply lY.drew)|exact HK.out)).1) hk)),Kd.fresh' (Kd.R_lt (bN HO130)) k_ hk⟩));(case aO=>exact (bN HO133));(case aS=>exact (aT (aX HB)));(case aL=>have:=LMc27.out;omega);intro v135 w34 ho hb hg hat;rw [← Ny134.out] at ho;replace HO130:=aE (Kd.R_after (ok:=(fun k_=>(P0_ k_∨w.heap.size≤k_))) (bN HO130) hg hat);replace HB:=aE (hb);replace HK:=aE (lA (S:=(fun k_=>P0_ k_)) hg (by repeat (first|(with_reducible first|exact HK.out|apply lY.alloc|apply lY.drewN|apply lY.drew)|exact HK.out)) (fun k_ e_=>(HO133.out.1 k_ e_).1));have HO136:=aE (ho);clear HO133;clear ho hb hg hat;obtain ⟨Ao36,co36,eo36⟩:=Kd.R_slice HO130.out;subst eo36)|((with_reducible refine cT (b:=.append) (xs:=#[.tmp 32,.tmp 33]) rfl ?_);at_builtin;refine Kd.R_append_rows (Kd.int .i64) (w0:=w0) w0.heap.size rfl (.tmp 32) (.tmp 33) 33 3 (.int .i64 0) 8 rfl Tryz.underlying33 mO rfl (by decide) (by omega) v135 y134 y128 _ _ _ (fun k_=>(P0_ k_∨w.heap.size≤k_)∧some k_≠(.slice Ao36 y128.length co36:Value).ownBlock) (fun _=>False) rfl rfl ?aO ?aR (fun _ _ h=>h) (fun _ h=>h.elim) ?aF ?aB ?aS ?aL ?_;(case aR=>repeat (first|exact (Kd.R_reads' HO130.out).2.2|(with_reducible refine Kd.C_alloc ?_ _)|(with_reducible refine Kd.C_drewN ?_ _)|(with_reducible refine Kd.C_drew ?_)));(case aB=>exact (aX HB));(case aF=>exact (fun k_ hk=>⟨(.inr (Nat.le_trans (by first|exact HK.out.1|exact (show lY w _ (fun k_=>P0_ k_) from by repeat (first|(with_reducible first|exact HK.out|apply lY.alloc|apply lY.drewN|apply lY.drew)|exact HK.out)).1) hk)),Kd.fresh' (Kd.R_lt (bN HO130)) k_ hk⟩));(case aO=>exact (bN HO136));(case aS=>exact (aT (aX HB)));(case aL=>have:=LMc28.out;omega);intro v138 w35 ho hb hg hat;rw [← Ny137.out] at ho;replace HO130:=aE (Kd.R_after (ok:=(fun k_=>(P0_ k_∨w.heap.size≤k_))) (bN HO130) hg hat);replace HB:=aE (hb);replace HK:=aE (lA (S:=(fun k_=>P0_ k_)) hg (by repeat (first|(with_reducible first|exact HK.out|apply lY.alloc|apply lY.drewN|apply lY.drew)|exact HK.out)) (fun k_ e_=>(HO136.out.1 k_ e_).1));have HO139:=aE (ho);clear HO136;clear ho hb hg hat))
     go_ret
     exact ⟨_,bP,by (with_reducible repeat (first|apply kD|apply kE|apply gU));exact Kd.R_mono HO139.out (fun _ hk=>hk.1),aX HB,by repeat (first|(with_reducible first|exact HK.out|apply lY.alloc|apply lY.drewN|apply lY.drew)|exact HK.out)⟩
/-! ### spec_l28Size: function 51 -/
def spec_l28Size.f (a0_0:Int) (a0_1:Int) (a1_0:Int) (a1_1:Int) (a2_0:Int) (a2_1:Int):Option (Int):=(spec_l2Area.f a0_0 a0_1 a1_0 a1_1 a2_0 a2_1).bind fun t104=>((spec_l2Area.f a0_0 a0_1 a1_0 a1_1 a2_0 a2_1).bind fun t105=>((spec_l1Max.f t104 (wrap64 (-t105))).bind fun t106=>(some t106)))
def uB:Bool×List (List Nat×List Nat):=(true,[([],[]),([],[]),([],[]),([0,1,2],[0,1,2]),([],[]),([],[]),([],[]),([4,5,6,3],[4,5,6]),([7],[7]),([3,8,7],[3,8]),([9,9,0,1,2,3,4,5,6,7,8,9],[9])])
def CU:List Nat:=[0,0,0,7,0,0,0,127,255,511,1023]
theorem zK:iQ .any (iS Tryz.f51 1)=uB:=by kernel_rfl
theorem yD:dM uB.2 CU=true:=by kernel_rfl
set_option maxHeartbeats 8000000 in
set_option maxRecDepth 100000 in
theorem mF (a0_0:Int) (a0_1:Int) (a1_0:Int) (a1_1:Int) (a2_0:Int) (a2_1:Int) (r:Int) (w:World) (h:spec_l28Size.f a0_0 a0_1 a1_0 a1_1 a2_0 a2_1=some r) :
  Calls Tryz.prog 51 #[.agg #[.int .i64 a0_0,.int .i64 a0_1],.agg #[.int .i64 a1_0,.int .i64 a1_1],.agg #[.int .i64 a2_0,.int .i64 a2_1]] w fun e w'=>e=.returned (.int .i64 r)∧Below w.heap.size w w':=by
 have hu28:=Tryz.underlying28
 have HB:=aE (Below.refl w.heap.size w)
 unfold spec_l28Size.f at h
 have H:=h
 clear h
 replace H:=eM H
 obtain ⟨t104,A4,H⟩:=H
 replace H:=eM H
 obtain ⟨t105,A5,H⟩:=H
 replace H:=eM H
 obtain ⟨t106,A6,H⟩:=H
 obtain rfl:=Option.some.inj H
 go_enter Tryz.func51,Tryz.ntmps51
 try go_wp2_with (first|((with_reducible refine aN (N:=3) rfl ?_);refine bV (N:=3) #[.int .i64 a0_0,.int .i64 a0_1] 28 ?_;intro gb101 hg w7 hbox hb;have BK101:=aE (hbox);have GW101:=aE ((dX HB hg));have GE101:=aE ((dX HB hg));replace HB:=aE (aD (aX HB) hb);clear hb hbox hg)|((with_reducible refine aN (N:=4) rfl ?_);refine bV (N:=4) #[.int .i64 a1_0,.int .i64 a1_1] 28 ?_;intro gb102 hg w8 hbox hb;have BK102:=aE (hbox);have GW102:=aE ((dX HB hg));have GE102:=aE ((dX HB hg));replace HB:=aE (aD (aX HB) hb);have NB101_102:=aE ((iX BK101 hg));have NB102_101:=aE ((iY BK101 hg));replace BK101:=aE (bB BK101 hb);clear hb hbox hg)|((with_reducible refine aN (N:=5) rfl ?_);refine bV (N:=5) #[.int .i64 a2_0,.int .i64 a2_1] 28 ?_;intro gb103 hg w9 hbox hb;have BK103:=aE (hbox);have GW103:=aE ((dX HB hg));have GE103:=aE ((dX HB hg));replace HB:=aE (aD (aX HB) hb);have NB101_103:=aE ((iX BK101 hg));have NB103_101:=aE ((iY BK101 hg));replace BK101:=aE (bB BK101 hb);have NB102_103:=aE ((iX BK102 hg));have NB103_102:=aE ((iY BK102 hg));replace BK102:=aE (bB BK102 hb);clear hb hbox hg))
 replace BK101:=aE (aI BK101.out)
 replace BK102:=aE (aI BK102.out)
 replace BK103:=aE (aI BK103.out)
 replace HB:=aE (jK HB.out)
 refine dA (n:=11) (S:=fun w'=>w'.cell? ⟨gb101,0,none⟩=some (.int .i64 a0_0)∧w'.cell? ⟨gb101,1,none⟩=some (.int .i64 a0_1)∧w'.cell? ⟨gb102,0,none⟩=some (.int .i64 a1_0)∧w'.cell? ⟨gb102,1,none⟩=some (.int .i64 a1_1)∧w'.cell? ⟨gb103,0,none⟩=some (.int .i64 a2_0)∧w'.cell? ⟨gb103,1,none⟩=some (.int .i64 a2_1)) (ds:=[]) (bm 11 0) (by kernel_rfl) rfl rfl ⟨aW BK101 0,aW BK101 1,aW BK102 0,aW BK102 1,aW BK103 0,aW BK103 1⟩ (fun hHeld=>?_);refine bO zK yD (fun HT_ HW_=>?_)
 generalize w9.drew=w10 at BK101 BK102 BK103 HB hHeld ⊢
 refine bU ((2,0,7,1)::(2,1,8,3)::(2,2,9,7)::(2,4,11,23)::(2,5,12,55)::(2,6,13,119)::[]) ?_
 iterate 6 (first|refine pZ HT_ HW_ hHeld ?_)
 refine aU ?_
 refine dQ (i:=3) (N:=some 10) (bm 11 127) rfl rfl (bJ HT_.out (by kernel_rfl)) (by decide) (fun K hK=>?_)
 refine cN Tryz.func53 #[.agg #[.int .i64 a0_0,.int .i64 a0_1],.agg #[.int .i64 a1_0,.int .i64 a1_1],.agg #[.int .i64 a2_0,.int .i64 a2_1]] ?_
 with_reducible refine (gX a0_0 a0_1 a1_0 a1_1 a2_0 a2_1 t104 _ A4.out).mono ?_
 rintro e w11 ⟨rfl,hb⟩
 refine ⟨_,rfl,?_⟩
 replace BK101:=aE (bB BK101 hb)
 replace BK102:=aE (bB BK102 hb)
 replace BK103:=aE (bB BK103 hb)
 replace HB:=aE (aD (aX HB) hb)
 (try clear hb)
 refine hK.out _ _ ⟨aW BK101 0,aW BK101 1,aW BK102 0,aW BK102 1,aW BK103 0,aW BK103 1⟩ (fun hHeld=>?_)
 clear hK K
 refine gA ?_
 refine dQ (i:=7) (N:=some 14) (bm 11 255) rfl rfl (bJ HT_.out (by kernel_rfl)) (by decide) (fun K hK=>?_)
 refine cN Tryz.func53 #[.agg #[.int .i64 a0_0,.int .i64 a0_1],.agg #[.int .i64 a1_0,.int .i64 a1_1],.agg #[.int .i64 a2_0,.int .i64 a2_1]] ?_
 with_reducible refine (gX a0_0 a0_1 a1_0 a1_1 a2_0 a2_1 t105 _ A5.out).mono ?_
 rintro e w12 ⟨rfl,hb⟩
 refine ⟨_,rfl,?_⟩
 replace BK101:=aE (bB BK101 hb)
 replace BK102:=aE (bB BK102 hb)
 replace BK103:=aE (bB BK103 hb)
 replace HB:=aE (aD (aX HB) hb)
 (try clear hb)
 refine hK.out _ _ ⟨aW BK101 0,aW BK101 1,aW BK102 0,aW BK102 1,aW BK103 0,aW BK103 1⟩ (fun hHeld=>?_)
 clear hK K
 refine gA ?_
 refine bU ((0,8,15,511)::[]) ?_
 iterate 1 (first|refine jT HT_ ?_)
 refine aU ?_
 refine dQ (i:=9) (N:=some 16) (bm 11 1023) rfl rfl (bJ HT_.out (by kernel_rfl)) (by decide) (fun K hK=>?_)
 refine cN Tryz.func70 #[.int .i64 t104,.int .i64 (wrap64 (-t105))] ?_
 with_reducible refine (kP t104 (wrap64 (-t105)) t106 _ A6.out).mono ?_
 rintro e w' ⟨rfl,⟨nd,rfl⟩⟩
 refine ⟨_,rfl,?_⟩
 refine hK.out _ _ ⟨aW BK101 0,aW BK101 1,aW BK102 0,aW BK102 1,aW BK103 0,aW BK103 1⟩ (fun hHeld=>?_)
 clear hK K
 refine gA ?_
 refine bU ((0,10,6,2047)::[]) ?_
 iterate 1 (first|refine jT HT_ ?_)
 refine aU ?_
 refine eN (cK HT_.out (by kernel_rfl)) ?_
 try go_wp2
 go_ret
 exact ⟨bP,aX HB⟩
/-! ### spec_TriangleRow: function 19 -/
mutual
def dU:Nat→List (cF)→List Int→Int→Option (List Int)
 | 0,_,_,_=>none
 | k+1,x0,x3,x4=>if x4<(x0.length:Int) then ((spec_ArePoints.f k x0).bind fun t104=>(cZ k x0 x3 x4 t104)) else (cZ k x0 x3 x4 false)
def cZ:Nat→List (cF)→List Int→Int→Bool→Option (List Int)
 | 0,_,_,_,_=>none
 | k+1,x0,x3,x4,x15=>if x15=true then (eC k x0 x3 x4 (wrap64 (x4+1))) else (some x3)
def eC:Nat→List (cF)→List Int→Int→Int→Option (List Int)
 | 0,_,_,_,_=>none
 | k+1,x0,x3,x4,x5=>if x5<(x0.length:Int) then (eD k x0 x3 x4 x5 (wrap64 (x5+1))) else (dU k x0 x3 (wrap64 (x4+1)))
def eD:Nat→List (cF)→List Int→Int→Int→Int→Option (List Int)
 | 0,_,_,_,_,_=>none
 | k+1,x0,x3,x4,x5,x6=>if x6<(x0.length:Int) then (if 0≤x4 then (if x4<(x0.length:Int) then (if 0≤x5 then (if x5<(x0.length:Int) then (if 0≤x6 then ((spec_l28Size.f ((aC x0 x4).f0) ((aC x0 x4).f1) ((aC x0 x5).f0) ((aC x0 x5).f1) ((aC x0 x6).f0) ((aC x0 x6).f1)).bind fun t108=>((spec_l16Put.f k x3 t108).bind fun t109=>(eD k x0 t109 x4 x5 (wrap64 (x6+1))))) else (none)) else (none)) else (none)) else (none)) else (none)) else (eC k x0 x3 x4 (wrap64 (x5+1)))
end
def spec_TriangleRow.f (k:Nat) (l0:List (cF)):Option (List Int):=dU k l0 (([]:List Int)) 0
def oE:Bool×List (List Nat×List Nat):=(true,[([],[]),([],[]),([],[]),([1,2],[1,2]),([3],[3]),([],[]),([],[]),([5,6],[5,6]),([7],[7]),([],[]),([],[]),([9,10],[9,10]),([11],[11]),([4,8,12],[4,8,12]),([0,13,13],[0,13]),([14,14,0,1,2,3,4,5,6,7,8,9,10,11,12,13,14],[0,14])])
def vM:List Nat:=[0,0,0,6,14,0,0,96,224,0,0,1536,3584,8190,16383,32767]
theorem tF:iQ .any (iS Tryz.f19 11)=oE:=by kernel_rfl
theorem sL:dM oE.2 vM=true:=by kernel_rfl
set_option maxHeartbeats 8000000 in
set_option maxRecDepth 100000 in
theorem mU (k : Nat) (A0 : Option Addr) (c0 : Nat) (l0 : List (cF)) (r : List Int) (w : World) (hr0 : Kd.C jW w A0 l0.length l0) (hc0 : l0.length ≤ c0) (h : spec_TriangleRow.f k l0 = some r) :
  Calls Tryz.prog 19 #[.slice A0 l0.length c0] w fun e w'=>∃ v0_:Value,e=.returned (v0_)∧Kd.R (Kd.int .i64) 3 w' w.heap.size (fun _=>True) v0_ r∧Below w.heap.size w w':=by
 have hu28:=Tryz.underlying28
 have HR0:=aE hr0
 have HC0:=aE hc0
 clear hr0 hc0
 have HB:=aE (Below.refl w.heap.size w)
 unfold spec_TriangleRow.f at h
 have H:=h
 clear h
 obtain ⟨y101,hy101⟩:∃ y_:List Int,y_=(([]:List Int)):=⟨_,rfl⟩
 first|(with_reducible replace H:=oO hy101 H)|(with_reducible replace H:=oP hy101 H)|rw [← hy101] at H
 have Ny101:=aE hy101
 clear hy101
 have H':=aE H
 clear H
 go_enter Tryz.func19,Tryz.ntmps19
 go_wp2_with (first|((with_reducible refine aN (N:=7) rfl ?_);refine Kd.R_lit (Kd.int .i64) _ 3 ?hg (N:=7) ?hd (xs:=([]:List Int)) (inner:=[]) (ok:=fun _=>True) (okp:=fun _=>True) ?hr ?hp (fun _ hk=>hk) trivial (Below.refl _ _) (Nat.le_refl _) (by simp) ?_;(case hd=>rfl);(case hg=>rfl);(case hr=>first|(go_simp;done)|(go_simp;rfl));(case hp=>exact (kC.none _ _));intro v102 w2 ho3 hb hg_ hnew_;clear hg_ hnew_;(first|rw [← Ny101.out] at ho3|(simp only [Int.reduceToNat] at ho3;rw [← Ny101.out] at ho3));have HO103:=aE (Kd.R_lower ho3 (aT (aX HB)));replace HB:=aE (aD (aX HB) hb);clear hb ho3))
 go_loopg [3,4] k (fun kq v3 v4 w'=>∃ (x3_1:List Int) (x4_1:Int),v4=.int .i64 x4_1∧Aside0 (dU kq l0 x3_1 x4_1=some r)∧Aside0 (kq≤k)∧Aside0 (Kd.R (Kd.int .i64) 3 w' w.heap.size (fun _=>True) v3 x3_1)∧Aside0 (Below w.heap.size w w'))
 case atStart=>exact ⟨(y101),(0),aH,H',⟨Nat.le_refl _⟩,⟨bN HO103⟩,⟨aX HB⟩⟩
 case round =>
  clear H'
  obtain ⟨x3_1,x4_1,rfl,HA,HK1,HO_3,HB⟩:=hrel
  cases gk with
  | zero=>exact absurd HA.out (by simp [dU])
  | succ k1 =>
   have H:=HA.out
   clear HA
   simp only [dU] at H
   have HC4:=aE H
   clear H
   go_upto_region 3 with (fail)
   go_cut [15] (fun v15 wc=>∃ (kq:Nat) (x15_3:Bool),v15=.bool x15_3∧Aside0 (cZ kq l0 x3_1 x4_1 x15_3=some r)∧Aside0 (kq≤k1)∧Aside0 (Kd.R (Kd.int .i64) 3 wc w.heap.size (fun _=>True) u3 x3_1)∧Aside0 (Below w.heap.size w wc))
   case first =>
    have H:=HC4.out
    clear HC4
    rcases eV H with ⟨c5b0,H⟩|⟨c5b0,H⟩
    ·(first|rw [c5b0]|(simp only [cC,dW];rw [c5b0])|skip)
     replace H:=eM H
     obtain ⟨t104,A6,H⟩:=H
     have H':=aE H
     clear H
     go_wp2_with (first|(go_at_call 23;(with_reducible refine (cB k1 _ _ l0 t104 _ ?side1 ?side2 A6.out).mono ?_);(case side1=>exact kJ (Kd.C_below HR0.out HB.out));(case side2=>exact HC0.out);rintro e w7 ⟨rfl,hb⟩;replace HO_3:=aE (Kd.R_below (bN HO_3) hb);replace HB:=aE (aD (aX HB) hb);(try clear hb);(try clear hk)))
     go_meet
     case rel=>exact ⟨_,(t104),aH,H',⟨RK HK1⟩,⟨bN HO_3⟩,⟨aX HB⟩⟩
    ·(first|rw [c5b0]|(simp only [cC,dW];rw [c5b0])|skip)
     have H':=aE H
     clear H
     go_wp2
     go_meet
     case rel=>exact ⟨_,(false),aH,H',⟨RK HK1⟩,⟨bN HO_3⟩,⟨aX HB⟩⟩
   case rest =>
    clear HC4
    try clear c5b0
    obtain ⟨kq,x15_3,rfl,HA,HJ3,HO_3,HB⟩:=hcut
    cases kq with
    | zero=>exact absurd HA.out (by simp [cZ])
    | succ kj3 =>
     have H:=HA.out
     clear HA
     simp only [cZ] at H
     by_cases c8:x15_3=true
     ·subst c8
      rw [if_pos rfl] at H
      have H':=aE H
      clear H
      go_wp2
      go_loopg [3,5] kj3 (fun kq v3 v5 w'=>∃ (x3_3:List Int) (x5_3:Int),v5=.int .i64 x5_3∧Aside0 (eC kq l0 x3_3 x4_1 x5_3=some r)∧Aside0 (kq≤kj3)∧Aside0 (Kd.R (Kd.int .i64) 3 w' w.heap.size (fun _=>True) v3 x3_3)∧Aside0 (Below w.heap.size w w'))
      case atStart=>exact ⟨(x3_1),(wrap64 (x4_1+1)),aH,H',⟨Nat.le_refl _⟩,⟨bN HO_3⟩,⟨aX HB⟩⟩
      case round =>
       clear H'
       try clear c5b0
       try clear c8
       obtain ⟨x3_3,x5_3,rfl,HA,HK3,HO_3,HB⟩:=hrel
       cases gk with
       | zero=>exact absurd HA.out (by simp [eC])
       | succ k3 =>
        have H:=HA.out
        clear HA
        simp only [eC] at H
        rcases eV H with ⟨c9b0,H⟩|⟨c9b0,H⟩
        ·have H':=aE H
         clear H
         go_wp2
         go_loopg [3,6] k3 (fun kq v3 v6 w'=>∃ (x3_4:List Int) (x6_4:Int),v6=.int .i64 x6_4∧Aside0 (eD kq l0 x3_4 x4_1 x5_3 x6_4=some r)∧Aside0 (kq≤k3)∧Aside0 (Kd.R (Kd.int .i64) 3 w' w.heap.size (fun _=>True) v3 x3_4)∧Aside0 (Below w.heap.size w w'))
         case atStart=>exact ⟨(x3_3),(wrap64 (x5_3+1)),aH,H',⟨Nat.le_refl _⟩,⟨bN HO_3⟩,⟨aX HB⟩⟩
         case round =>
          clear H'
          try clear c5b0
          try clear c8
          try clear c9b0
          obtain ⟨x3_4,x6_4,rfl,HA,HK4,HO_3,HB⟩:=hrel
          cases gk with
          | zero=>exact absurd HA.out (by simp [eD])
          | succ k4 =>
           have H:=HA.out
           clear HA
           simp only [eD] at H
           rcases eV H with ⟨c10b0,H⟩|⟨c10b0,H⟩
           ·obtain ⟨c11b0,H⟩:=cV H
            obtain ⟨c12b0,H⟩:=cV H
            obtain ⟨c13b0,H⟩:=cV H
            obtain ⟨c14b0,H⟩:=cV H
            obtain ⟨c15b0,H⟩:=cV H
            replace H:=eM H
            obtain ⟨t108,A16,H⟩:=H
            replace H:=eM H
            obtain ⟨t109,A17,H⟩:=H
            have H':=aE H
            clear H
            try go_wp2
            replace HO_3:=aE (gU HO_3.out)
            replace HB:=aE (jK HB.out)
            have p105:0≤(x4_1:Int):=bI
            have q105:x4_1<(l0.length:Int):=bI
            obtain ⟨ad105,e105,hx105_0,hx105_1⟩:=bW HR0.out x4_1 p105 q105
            have hw105_1:=hx105_1
            have hw105_0:=hx105_0
            cases e105
            replace hx105_0:=aY HB hx105_0
            replace hx105_1:=aY HB hx105_1
            replace p105:=eq_true p105
            replace q105:=eq_true q105
            have p106:0≤(x5_3:Int):=bI
            have q106:x5_3<(l0.length:Int):=bI
            obtain ⟨ad106,e106,hx106_0,hx106_1⟩:=bW HR0.out x5_3 p106 q106
            have hw106_1:=hx106_1
            have hw106_0:=hx106_0
            obtain rfl:ad105=ad106:=(by injection e106)
            replace hx106_0:=aY HB hx106_0
            replace hx106_1:=aY HB hx106_1
            replace p106:=eq_true p106
            replace q106:=eq_true q106
            have p107:0≤(x6_4:Int):=bI
            have q107:x6_4<(l0.length:Int):=bI
            obtain ⟨ad107,e107,hx107_0,hx107_1⟩:=bW HR0.out x6_4 p107 q107
            have hw107_1:=hx107_1
            have hw107_0:=hx107_0
            obtain rfl:ad105=ad107:=(by injection e107)
            replace hx107_0:=aY HB hx107_0
            replace hx107_1:=aY HB hx107_1
            replace p107:=eq_true p107
            replace q107:=eq_true q107
            refine dA (n:=16) (S:=fun w'=>w'.cell? (ad105.add ((x4_1).toNat*2))=some (.int .i64 ((aC l0 x4_1).f0))∧w'.cell? ⟨(ad105.add ((x4_1).toNat*2)).block,(ad105.add ((x4_1).toNat*2)).off+1,none⟩=some (.int .i64 ((aC l0 x4_1).f1))∧w'.cell? (ad105.add ((x5_3).toNat*2))=some (.int .i64 ((aC l0 x5_3).f0))∧w'.cell? ⟨(ad105.add ((x5_3).toNat*2)).block,(ad105.add ((x5_3).toNat*2)).off+1,none⟩=some (.int .i64 ((aC l0 x5_3).f1))∧w'.cell? (ad105.add ((x6_4).toNat*2))=some (.int .i64 ((aC l0 x6_4).f0))∧w'.cell? ⟨(ad105.add ((x6_4).toNat*2)).block,(ad105.add ((x6_4).toNat*2)).off+1,none⟩=some (.int .i64 ((aC l0 x6_4).f1))) (ds:=[]) (bm 16 0) (by kernel_rfl) rfl rfl ⟨(aY HB hw105_0),(aY HB hw105_1),(aY HB hw106_0),(aY HB hw106_1),(aY HB hw107_0),(aY HB hw107_1)⟩ (fun hHeld=>?_);refine bO tF sL (fun HT_ HW_=>?_)
            generalize wr.drew=w18 at HO_3 HB hx105_0 hx105_1 hx106_0 hx106_1 hx107_0 hx107_1 hHeld ⊢
            refine bU ((0,0,34,1)::(0,1,35,3)::(0,2,36,7)::(0,3,37,15)::(0,5,39,47)::(0,6,40,111)::(0,7,41,239)::(0,9,43,751)::(0,10,44,1775)::(0,11,45,3823)::(2,4,38,3839)::(2,8,42,4095)::(2,12,46,8191)::[]) ?_
            iterate 13 (first|refine jT HT_ ?_|refine pZ HT_ HW_ hHeld ?_)
            refine aU ?_
            refine dQ (i:=13) (N:=some 47) (bm 16 16383) rfl rfl (bJ HT_.out (by kernel_rfl)) (by decide) (fun K hK=>?_)
            refine cN Tryz.func51 #[.agg #[.int .i64 ((aC l0 x4_1).f0),.int .i64 ((aC l0 x4_1).f1)],.agg #[.int .i64 ((aC l0 x5_3).f0),.int .i64 ((aC l0 x5_3).f1)],.agg #[.int .i64 ((aC l0 x6_4).f0),.int .i64 ((aC l0 x6_4).f1)]] ?_
            with_reducible refine (mF ((aC l0 x4_1).f0) ((aC l0 x4_1).f1) ((aC l0 x5_3).f0) ((aC l0 x5_3).f1) ((aC l0 x6_4).f0) ((aC l0 x6_4).f1) t108 _ A16.out).mono ?_
            rintro e w19 ⟨rfl,hb⟩
            refine ⟨_,rfl,?_⟩
            replace HO_3:=aE (Kd.R_below (bN HO_3) hb)
            replace HB:=aE (aD (aX HB) hb)
            (try clear hb)
            (try clear hk)
            obtain ⟨Ao20,co20,eo20⟩:=Kd.R_slice HO_3.out
            (first|subst eo20|(injection eo20 with f1_ f2_ f3_;have f4_:=f1_.symm;have f5_:=f3_.symm;clear f1_ f2_ f3_;subst f4_;subst f5_))
            refine hK.out _ _ ⟨(aY HB hw105_0),(aY HB hw105_1),(aY HB hw106_0),(aY HB hw106_1),(aY HB hw107_0),(aY HB hw107_1)⟩ (fun hHeld=>?_)
            clear hK K
            refine gA ?_
            refine dQ (i:=14) (N:=some 48) (bm 16 32767) rfl rfl (bJ HT_.out (by kernel_rfl)) (by decide) (fun K hK=>?_)
            refine cN Tryz.func50 #[.slice Ao20 x3_4.length co20,.int .i64 t108] ?_
            with_reducible refine (zJ k4 (fun k_=>some k_=(.slice Ao20 x3_4.length co20:Value).ownBlock) (.slice Ao20 x3_4.length co20) x3_4 t108 t109 w _ ?side1 ?side2 A17.out).mono ?_
            (case side1=>exact aX HB)
            (case side2=>exact Kd.R_tight rfl HO_3.out)
            rintro e w21 ⟨v110,rfl,ho0,hb,hkp⟩
            refine ⟨_,rfl,?_⟩
            have HO111:=aE (Kd.R_mono (ok':=fun k_=>True) ho0 (fun k_ hk_=>trivial))
            replace HB:=aE (hb)
            clear HO_3
            (try clear hb)
            (try clear hkp)
            (try clear ho0)
            refine hK.out _ _ ⟨(aY HB hw105_0),(aY HB hw105_1),(aY HB hw106_0),(aY HB hw106_1),(aY HB hw107_0),(aY HB hw107_1)⟩ (fun hHeld=>?_)
            clear hK K
            refine gA ?_
            refine bU ((0,15,3,65535)::[]) ?_
            iterate 1 (first|refine jT HT_ ?_)
            refine aU ?_
            refine eN (cK HT_.out (by kernel_rfl)) ?_
            try go_wp2
            go_roundg k4
            case measure=>have:=HK1.out;have:=HJ3.out;have:=HK3.out;have:=HK4.out;omega
            case rel=>exact ⟨(t109),(wrap64 (x6_4+1)),aH,H',⟨by have:=HK1.out;have:=HJ3.out;have:=HK3.out;have:=HK4.out;omega⟩,⟨bN HO111⟩,⟨aX HB⟩⟩
           ·have H':=aE H
            clear H
            go_wp2
            go_roundg k4
            case measure=>have:=HK1.out;have:=HJ3.out;have:=HK3.out;have:=HK4.out;omega
            case rel=>exact ⟨(x3_4),(wrap64 (x5_3+1)),aH,H',⟨by have:=HK1.out;have:=HJ3.out;have:=HK3.out;have:=HK4.out;omega⟩,⟨bN HO_3⟩,⟨aX HB⟩⟩
        ·have H':=aE H
         clear H
         go_wp2
         go_roundg k3
         case measure=>have:=HK1.out;have:=HJ3.out;have:=HK3.out;omega
         case rel=>exact ⟨(x3_3),(wrap64 (x4_1+1)),aH,H',⟨by have:=HK1.out;have:=HJ3.out;have:=HK3.out;omega⟩,⟨bN HO_3⟩,⟨aX HB⟩⟩
     ·replace c8:=Bool.eq_false_iff.mpr c8
      subst c8
      rw [if_neg (show ¬ (false=true) by decide)] at H
      obtain rfl:=Option.some.inj H
      go_wp2
      go_ret
      exact ⟨_,bP,bN HO_3,aX HB⟩
/-! ### spec_SmallestTriangle: function 20 -/
mutual
def cL:Nat→List (cF)→List Int→Int→Option (List Int)
 | 0,_,_,_=>none
 | k+1,x0,x3,x4=>if x4<(x0.length:Int) then (bH k x0 x3 x4 (decide ((x3.length:Int) > 0))) else (bH k x0 x3 x4 false)
def bH:Nat→List (cF)→List Int→Int→Bool→Option (List Int)
 | 0,_,_,_,_=>none
 | k+1,x0,x3,x4,x17=>if x17=true then (cW k x0 x3 x4 (wrap64 (x4+1))) else (some (([]:List Int)))
def cW:Nat→List (cF)→List Int→Int→Int→Option (List Int)
 | 0,_,_,_,_=>none
 | k+1,x0,x3,x4,x5=>if x5<(x0.length:Int) then (cX k x0 x3 x4 x5 (wrap64 (x5+1))) else (cL k x0 x3 (wrap64 (x4+1)))
def cX:Nat→List (cF)→List Int→Int→Int→Int→Option (List Int)
 | 0,_,_,_,_,_=>none
 | k+1,x0,x3,x4,x5,x6=>if x6<(x0.length:Int) then (if 0≤x4 then (if x4<(x0.length:Int) then (if 0≤x5 then (if x5<(x0.length:Int) then (if 0≤x6 then ((spec_l28Size.f ((aC x0 x4).f0) ((aC x0 x4).f1) ((aC x0 x5).f0) ((aC x0 x5).f1) ((aC x0 x6).f0) ((aC x0 x6).f1)).bind fun t110=>(if 0<(x3.length:Int) then (if t110=(rd x3 0) then (some (([x4,x5,x6]:List Int))) else (cX k x0 x3 x4 x5 (wrap64 (x6+1)))) else (none))) else (none)) else (none)) else (none)) else (none)) else (none)) else (cW k x0 x3 x4 (wrap64 (x5+1)))
end
def spec_SmallestTriangle.f (k:Nat) (l0:List (cF)):Option (List Int):=(spec_TriangleRow.f k l0).bind fun t101=>(cL k l0 t101 0)
def lW:Bool×List (List Nat×List Nat):=(true,[([],[]),([],[]),([0,1],[0,1]),([2],[2]),([],[]),([],[]),([4,5],[4,5]),([6],[6]),([],[]),([],[]),([8,9],[8,9]),([10],[10]),([3,7,11],[3,7,11]),([],[]),([13],[13]),([14],[14]),([12,15],[12,15])])
def qV:List Nat:=[0,0,3,7,0,0,48,112,0,0,768,1792,4095,0,8192,24576,65535]
theorem lJ:iQ .any (iS Tryz.f20 11)=lW:=by kernel_rfl
theorem kZ:dM lW.2 qV=true:=by kernel_rfl
set_option maxHeartbeats 8000000 in
set_option maxRecDepth 100000 in
theorem pK (k : Nat) (A0 : Option Addr) (c0 : Nat) (l0 : List (cF)) (r : List Int) (w : World) (hr0 : Kd.C jW w A0 l0.length l0) (hc0 : l0.length ≤ c0) (h : spec_SmallestTriangle.f k l0 = some r) :
  Calls Tryz.prog 20 #[.slice A0 l0.length c0] w fun e w'=>∃ v0_:Value,e=.returned (v0_)∧Kd.R (Kd.int .i64) 3 w' w.heap.size (fun _=>True) v0_ r∧Below w.heap.size w w':=by
 have hu28:=Tryz.underlying28
 have HR0:=aE hr0
 have HC0:=aE hc0
 clear hr0 hc0
 have HB:=aE (Below.refl w.heap.size w)
 unfold spec_SmallestTriangle.f at h
 have H:=h
 clear h
 replace H:=eM H
 obtain ⟨t101,A2,H⟩:=H
 have H':=aE H
 clear H
 go_enter Tryz.func20,Tryz.ntmps20
 go_wp2_with (first|((with_reducible refine aJ (f:=19) rfl ?_);refine aV (some 8) Tryz.func19 #[.slice A0 l0.length c0] ?_;(with_reducible refine (mU k _ _ l0 t101 _ ?side1 ?side2 A2.out).mono ?_);(case side1=>exact kJ HR0.out);(case side2=>exact HC0.out);rintro e w3 ⟨v102,rfl,ho0,hb⟩;refine ⟨_,rfl,?_⟩;have HO103:=aE (Kd.R_lower ho0 (aT (aX HB)));replace HB:=aE (aD (aX HB) hb);(try clear hb);(try clear hk);(try clear ho0)))
 go_loopg [4] k (fun kq v4 w'=>∃ (x4_1:Int),v4=.int .i64 x4_1∧Aside0 (cL kq l0 t101 x4_1=some r)∧Aside0 (kq≤k)∧Aside0 (Kd.R (Kd.int .i64) 3 w' w.heap.size (fun _=>True) v102 t101)∧Aside0 (Below w.heap.size w w'))
 case atStart=>exact ⟨(0),aH,H',⟨Nat.le_refl _⟩,⟨bN HO103⟩,⟨aX HB⟩⟩
 case round =>
  clear H'
  obtain ⟨x4_1,rfl,HA,HK1,HO_3,HB⟩:=hrel
  cases gk with
  | zero=>exact absurd HA.out (by simp [cL])
  | succ k1 =>
   have H:=HA.out
   clear HA
   simp only [cL] at H
   have HC4:=aE H
   clear H
   go_upto_region 3 with (fail)
   go_cut [17] (fun v17 wc=>∃ (kq:Nat) (x17_3:Bool),v17=.bool x17_3∧Aside0 (bH kq l0 t101 x4_1 x17_3=some r)∧Aside0 (kq≤k1)∧Aside0 (Kd.R (Kd.int .i64) 3 wc w.heap.size (fun _=>True) v102 t101)∧Aside0 (Below w.heap.size w wc))
   case first =>
    have H:=HC4.out
    clear HC4
    rcases eV H with ⟨c5b0,H⟩|⟨c5b0,H⟩
    ·(first|rw [c5b0]|(simp only [cC,dW];rw [c5b0])|skip)
     have H':=aE H
     clear H
     obtain ⟨Ao6,co6,eo6⟩:=Kd.R_slice HO_3.out
     subst eo6
     go_wp2
     go_meet
     case rel=>exact ⟨_,(decide ((t101.length:Int) > 0)),aH,H',⟨RK HK1⟩,⟨bN HO_3⟩,⟨aX HB⟩⟩
    ·(first|rw [c5b0]|(simp only [cC,dW];rw [c5b0])|skip)
     have H':=aE H
     clear H
     go_wp2
     go_meet
     case rel=>exact ⟨_,(false),aH,H',⟨RK HK1⟩,⟨bN HO_3⟩,⟨aX HB⟩⟩
   case rest =>
    clear HC4
    try clear c5b0
    obtain ⟨kq,x17_3,rfl,HA,HJ3,HO_3,HB⟩:=hcut
    cases kq with
    | zero=>exact absurd HA.out (by simp [bH])
    | succ kj3 =>
     have H:=HA.out
     clear HA
     simp only [bH] at H
     by_cases c7:x17_3=true
     ·subst c7
      rw [if_pos rfl] at H
      have H':=aE H
      clear H
      go_wp2
      go_loopg [5] kj3 (fun kq v5 w'=>∃ (x5_3:Int),v5=.int .i64 x5_3∧Aside0 (cW kq l0 t101 x4_1 x5_3=some r)∧Aside0 (kq≤kj3)∧Aside0 (Kd.R (Kd.int .i64) 3 w' w.heap.size (fun _=>True) v102 t101)∧Aside0 (Below w.heap.size w w'))
      case atStart=>exact ⟨(wrap64 (x4_1+1)),aH,H',⟨Nat.le_refl _⟩,⟨bN HO_3⟩,⟨aX HB⟩⟩
      case round =>
       clear H'
       try clear c5b0
       try clear c7
       obtain ⟨x5_3,rfl,HA,HK3,HO_3,HB⟩:=hrel
       cases gk with
       | zero=>exact absurd HA.out (by simp [cW])
       | succ k3 =>
        have H:=HA.out
        clear HA
        simp only [cW] at H
        rcases eV H with ⟨c8b0,H⟩|⟨c8b0,H⟩
        ·have H':=aE H
         clear H
         go_wp2
         go_loopg [6] k3 (fun kq v6 w'=>∃ (x6_4:Int),v6=.int .i64 x6_4∧Aside0 (cX kq l0 t101 x4_1 x5_3 x6_4=some r)∧Aside0 (kq≤k3)∧Aside0 (Kd.R (Kd.int .i64) 3 w' w.heap.size (fun _=>True) v102 t101)∧Aside0 (Below w.heap.size w w'))
         case atStart=>exact ⟨(wrap64 (x5_3+1)),aH,H',⟨Nat.le_refl _⟩,⟨bN HO_3⟩,⟨aX HB⟩⟩
         case round =>
          clear H'
          try clear c5b0
          try clear c7
          try clear c8b0
          obtain ⟨x6_4,rfl,HA,HK4,HO_3,HB⟩:=hrel
          cases gk with
          | zero=>exact absurd HA.out (by simp [cX])
          | succ k4 =>
           have H:=HA.out
           clear HA
           simp only [cX] at H
           rcases eV H with ⟨c9b0,H⟩|⟨c9b0,H⟩
           ·obtain ⟨c10b0,H⟩:=cV H
            obtain ⟨c11b0,H⟩:=cV H
            obtain ⟨c12b0,H⟩:=cV H
            obtain ⟨c13b0,H⟩:=cV H
            obtain ⟨c14b0,H⟩:=cV H
            replace H:=eM H
            obtain ⟨t110,A15,H⟩:=H
            obtain ⟨c16,H⟩:=gQ H
            have c16b0:=decide_eq_true c16
            have c16b1:decide (0<t101.length)=true:=decide_eq_true (by omega)
            clear c16
            rcases jE H with ⟨c17,H⟩|⟨c17,H⟩
            ·have c17b0:(t110==(rd t101 0))=true:=beq_iff_eq.mpr c17
             have c17b1:(t110 != (rd t101 0))=false:=bne_eq_false_iff_eq.mpr c17
             clear c17
             obtain ⟨y112,hy112⟩:∃ y_:List Int,y_=(([x4_1,x5_3,x6_4]:List Int)):=⟨_,rfl⟩
             first|(with_reducible replace H:=oO hy112 H)|(with_reducible replace H:=oP hy112 H)|rw [← hy112] at H
             have Ny112:=aE hy112
             clear hy112
             obtain rfl:=Option.some.inj H
             try go_wp2
             replace HO_3:=aE (gU HO_3.out)
             replace HB:=aE (jK HB.out)
             have p107:0≤(x4_1:Int):=bI
             have q107:x4_1<(l0.length:Int):=bI
             obtain ⟨ad107,e107,hx107_0,hx107_1⟩:=bW HR0.out x4_1 p107 q107
             have hw107_1:=hx107_1
             have hw107_0:=hx107_0
             cases e107
             replace hx107_0:=aY HB hx107_0
             replace hx107_1:=aY HB hx107_1
             replace p107:=eq_true p107
             replace q107:=eq_true q107
             have p108:0≤(x5_3:Int):=bI
             have q108:x5_3<(l0.length:Int):=bI
             obtain ⟨ad108,e108,hx108_0,hx108_1⟩:=bW HR0.out x5_3 p108 q108
             have hw108_1:=hx108_1
             have hw108_0:=hx108_0
             obtain rfl:ad107=ad108:=(by injection e108)
             replace hx108_0:=aY HB hx108_0
             replace hx108_1:=aY HB hx108_1
             replace p108:=eq_true p108
             replace q108:=eq_true q108
             have p109:0≤(x6_4:Int):=bI
             have q109:x6_4<(l0.length:Int):=bI
             obtain ⟨ad109,e109,hx109_0,hx109_1⟩:=bW HR0.out x6_4 p109 q109
             have hw109_1:=hx109_1
             have hw109_0:=hx109_0
             obtain rfl:ad107=ad109:=(by injection e109)
             replace hx109_0:=aY HB hx109_0
             replace hx109_1:=aY HB hx109_1
             replace p109:=eq_true p109
             replace q109:=eq_true q109
             obtain ⟨Ao19,co19,eo19⟩:=Kd.R_slice HO_3.out
             (first|subst eo19|(injection eo19 with f1_ f2_ f3_;have f4_:=f1_.symm;have f5_:=f3_.symm;clear f1_ f2_ f3_;subst f4_;subst f5_))
             have p111:0≤(0:Int):=(by omega)
             have q111:0<(t101.length:Int):=bI
             obtain ⟨ad111,e111,hx111_0⟩:=Kd.at_int (Kd.R_reads' HO_3.out).2.2 0 p111 q111
             cases e111
             have qi111:(0<t101.length)=True:=eq_true (by omega)
             (try rw [show ((0:Int)).toNat=0 from rfl] at hx111_0)
             (try rw [Addr.add_zero'] at hx111_0)
             replace p111:=eq_true p111
             replace q111:=eq_true q111
             refine dA (n:=17) (S:=fun w'=>w'.cell? (ad107.add ((x4_1).toNat*2))=some (.int .i64 ((aC l0 x4_1).f0))∧w'.cell? ⟨(ad107.add ((x4_1).toNat*2)).block,(ad107.add ((x4_1).toNat*2)).off+1,none⟩=some (.int .i64 ((aC l0 x4_1).f1))∧w'.cell? (ad107.add ((x5_3).toNat*2))=some (.int .i64 ((aC l0 x5_3).f0))∧w'.cell? ⟨(ad107.add ((x5_3).toNat*2)).block,(ad107.add ((x5_3).toNat*2)).off+1,none⟩=some (.int .i64 ((aC l0 x5_3).f1))∧w'.cell? (ad107.add ((x6_4).toNat*2))=some (.int .i64 ((aC l0 x6_4).f0))∧w'.cell? ⟨(ad107.add ((x6_4).toNat*2)).block,(ad107.add ((x6_4).toNat*2)).off+1,none⟩=some (.int .i64 ((aC l0 x6_4).f1))∧w'.cell? ad111=some (.int .i64 (rd t101 0))) (ds:=[]) (bm 17 0) (by kernel_rfl) rfl rfl ⟨(aY HB hw107_0),(aY HB hw107_1),(aY HB hw108_0),(aY HB hw108_1),(aY HB hw109_0),(aY HB hw109_1),hx111_0⟩ (fun hHeld=>?_);refine bO lJ kZ (fun HT_ HW_=>?_)
             generalize wr.drew=w18 at HO_3 HB hx107_0 hx107_1 hx108_0 hx108_1 hx109_0 hx109_1 hx111_0 hHeld ⊢
             refine bU ((0,0,36,1)::(0,1,37,3)::(0,2,38,7)::(0,4,40,23)::(0,5,41,55)::(0,6,42,119)::(0,8,44,375)::(0,9,45,887)::(0,10,46,1911)::(0,13,49,10103)::(0,14,50,26487)::(2,3,39,26495)::(2,7,43,26623)::(2,11,47,28671)::(2,15,51,61439)::[]) ?_
             iterate 15 (first|refine jT HT_ ?_|refine pZ HT_ HW_ hHeld ?_)
             refine aU ?_
             refine dQ (i:=12) (N:=some 48) (bm 17 65535) rfl rfl (bJ HT_.out (by kernel_rfl)) (by decide) (fun K hK=>?_)
             refine cN Tryz.func51 #[.agg #[.int .i64 ((aC l0 x4_1).f0),.int .i64 ((aC l0 x4_1).f1)],.agg #[.int .i64 ((aC l0 x5_3).f0),.int .i64 ((aC l0 x5_3).f1)],.agg #[.int .i64 ((aC l0 x6_4).f0),.int .i64 ((aC l0 x6_4).f1)]] ?_
             with_reducible refine (mF ((aC l0 x4_1).f0) ((aC l0 x4_1).f1) ((aC l0 x5_3).f0) ((aC l0 x5_3).f1) ((aC l0 x6_4).f0) ((aC l0 x6_4).f1) t110 _ A15.out).mono ?_
             rintro e w20 ⟨rfl,hb⟩
             have HS6_:=uV hb hHeld.2.2.2.2.2.2
             refine ⟨_,rfl,?_⟩
             replace HO_3:=aE (Kd.R_below (bN HO_3) hb)
             replace HB:=aE (aD (aX HB) hb)
             (try clear hb)
             (try clear hk)
             refine hK.out _ _ ⟨(aY HB hw107_0),(aY HB hw107_1),(aY HB hw108_0),(aY HB hw108_1),(aY HB hw109_0),(aY HB hw109_1),HS6_⟩ (fun hHeld=>?_)
             clear hK K
             refine gA ?_
             refine bU ((0,16,52,131071)::[]) ?_
             iterate 1 (first|refine jT HT_ ?_)
             refine aU ?_
             refine eN (cK HT_.out (by kernel_rfl)) ?_
             try go_wp2_with (first|((with_reducible refine aN (N:=56) rfl ?_);(try (refine fS (by rfl) ?_;dsimp only));refine Kd.R_lit (Kd.int .i64) _ 3 ?hg (N:=56) ?hd (xs:=([x4_1,x5_3,x6_4]:List Int)) (inner:=[.int .i64 x4_1,.int .i64 x5_3,.int .i64 x6_4]) (ok:=fun _=>True) (okp:=fun _=>True) ?hr ?hp (fun _ hk=>hk) trivial (Below.refl _ _) (Nat.le_refl _) (by simp) ?_;(case hd=>rfl);(case hg=>rfl);(case hr=>first|(go_simp;done)|(go_simp;rfl));(case hp=>exact (dG (show Kd.M (Kd.int .i64) _ _ _ x4_1 [.int .i64 x4_1] from rfl) (dG (show Kd.M (Kd.int .i64) _ _ _ x5_3 [.int .i64 x5_3] from rfl) (dG (show Kd.M (Kd.int .i64) _ _ _ x6_4 [.int .i64 x6_4] from rfl) (kC.none _ _)))));intro v113 w21 ho22 hb hg_ hnew_;clear hg_ hnew_;(first|rw [← Ny112.out] at ho22|(simp only [Int.reduceToNat] at ho22;rw [← Ny112.out] at ho22));have HO114:=aE (Kd.R_lower (Kd.R_new' ho22 (Kd.R_lt (bN HO_3))) (aT (aX HB)));replace HO_3:=aE (Kd.R_elder' (bN HO_3) (Kd.R_base ho22) hb);replace HB:=aE (aD (aX HB) hb);clear hb ho22))
             go_ret
             exact ⟨_,bP,by (with_reducible repeat (first|apply kD|apply kE|apply gU));exact Kd.R_mono HO114.out (fun _ hk=>trivial),aX HB⟩
            ·have c17b0:(t110==(rd t101 0))=false:=beq_eq_false_iff_ne.mpr c17
             have c17b1:(t110 != (rd t101 0))=true:=bne_iff_ne.mpr c17
             have H':=aE H
             clear H
             try go_wp2
             replace HO_3:=aE (gU HO_3.out)
             replace HB:=aE (jK HB.out)
             have p107:0≤(x4_1:Int):=bI
             have q107:x4_1<(l0.length:Int):=bI
             obtain ⟨ad107,e107,hx107_0,hx107_1⟩:=bW HR0.out x4_1 p107 q107
             have hw107_1:=hx107_1
             have hw107_0:=hx107_0
             cases e107
             replace hx107_0:=aY HB hx107_0
             replace hx107_1:=aY HB hx107_1
             replace p107:=eq_true p107
             replace q107:=eq_true q107
             have p108:0≤(x5_3:Int):=bI
             have q108:x5_3<(l0.length:Int):=bI
             obtain ⟨ad108,e108,hx108_0,hx108_1⟩:=bW HR0.out x5_3 p108 q108
             have hw108_1:=hx108_1
             have hw108_0:=hx108_0
             obtain rfl:ad107=ad108:=(by injection e108)
             replace hx108_0:=aY HB hx108_0
             replace hx108_1:=aY HB hx108_1
             replace p108:=eq_true p108
             replace q108:=eq_true q108
             have p109:0≤(x6_4:Int):=bI
             have q109:x6_4<(l0.length:Int):=bI
             obtain ⟨ad109,e109,hx109_0,hx109_1⟩:=bW HR0.out x6_4 p109 q109
             have hw109_1:=hx109_1
             have hw109_0:=hx109_0
             obtain rfl:ad107=ad109:=(by injection e109)
             replace hx109_0:=aY HB hx109_0
             replace hx109_1:=aY HB hx109_1
             replace p109:=eq_true p109
             replace q109:=eq_true q109
             obtain ⟨Ao24,co24,eo24⟩:=Kd.R_slice HO_3.out
             (first|subst eo24|(injection eo24 with f1_ f2_ f3_;have f4_:=f1_.symm;have f5_:=f3_.symm;clear f1_ f2_ f3_;subst f4_;subst f5_))
             have p111:0≤(0:Int):=(by omega)
             have q111:0<(t101.length:Int):=bI
             obtain ⟨ad111,e111,hx111_0⟩:=Kd.at_int (Kd.R_reads' HO_3.out).2.2 0 p111 q111
             cases e111
             have qi111:(0<t101.length)=True:=eq_true (by omega)
             (try rw [show ((0:Int)).toNat=0 from rfl] at hx111_0)
             (try rw [Addr.add_zero'] at hx111_0)
             replace p111:=eq_true p111
             replace q111:=eq_true q111
             refine dA (n:=17) (S:=fun w'=>w'.cell? (ad107.add ((x4_1).toNat*2))=some (.int .i64 ((aC l0 x4_1).f0))∧w'.cell? ⟨(ad107.add ((x4_1).toNat*2)).block,(ad107.add ((x4_1).toNat*2)).off+1,none⟩=some (.int .i64 ((aC l0 x4_1).f1))∧w'.cell? (ad107.add ((x5_3).toNat*2))=some (.int .i64 ((aC l0 x5_3).f0))∧w'.cell? ⟨(ad107.add ((x5_3).toNat*2)).block,(ad107.add ((x5_3).toNat*2)).off+1,none⟩=some (.int .i64 ((aC l0 x5_3).f1))∧w'.cell? (ad107.add ((x6_4).toNat*2))=some (.int .i64 ((aC l0 x6_4).f0))∧w'.cell? ⟨(ad107.add ((x6_4).toNat*2)).block,(ad107.add ((x6_4).toNat*2)).off+1,none⟩=some (.int .i64 ((aC l0 x6_4).f1))∧w'.cell? ad111=some (.int .i64 (rd t101 0))) (ds:=[]) (bm 17 0) (by kernel_rfl) rfl rfl ⟨(aY HB hw107_0),(aY HB hw107_1),(aY HB hw108_0),(aY HB hw108_1),(aY HB hw109_0),(aY HB hw109_1),hx111_0⟩ (fun hHeld=>?_);refine bO lJ kZ (fun HT_ HW_=>?_)
             generalize wr.drew=w23 at HO_3 HB hx107_0 hx107_1 hx108_0 hx108_1 hx109_0 hx109_1 hx111_0 hHeld ⊢
             refine bU ((0,0,36,1)::(0,1,37,3)::(0,2,38,7)::(0,4,40,23)::(0,5,41,55)::(0,6,42,119)::(0,8,44,375)::(0,9,45,887)::(0,10,46,1911)::(0,13,49,10103)::(0,14,50,26487)::(2,3,39,26495)::(2,7,43,26623)::(2,11,47,28671)::(2,15,51,61439)::[]) ?_
             iterate 15 (first|refine jT HT_ ?_|refine pZ HT_ HW_ hHeld ?_)
             refine aU ?_
             refine dQ (i:=12) (N:=some 48) (bm 17 65535) rfl rfl (bJ HT_.out (by kernel_rfl)) (by decide) (fun K hK=>?_)
             refine cN Tryz.func51 #[.agg #[.int .i64 ((aC l0 x4_1).f0),.int .i64 ((aC l0 x4_1).f1)],.agg #[.int .i64 ((aC l0 x5_3).f0),.int .i64 ((aC l0 x5_3).f1)],.agg #[.int .i64 ((aC l0 x6_4).f0),.int .i64 ((aC l0 x6_4).f1)]] ?_
             with_reducible refine (mF ((aC l0 x4_1).f0) ((aC l0 x4_1).f1) ((aC l0 x5_3).f0) ((aC l0 x5_3).f1) ((aC l0 x6_4).f0) ((aC l0 x6_4).f1) t110 _ A15.out).mono ?_
             rintro e w25 ⟨rfl,hb⟩
             have HS6_:=uV hb hHeld.2.2.2.2.2.2
             refine ⟨_,rfl,?_⟩
             replace HO_3:=aE (Kd.R_below (bN HO_3) hb)
             replace HB:=aE (aD (aX HB) hb)
             (try clear hb)
             (try clear hk)
             refine hK.out _ _ ⟨(aY HB hw107_0),(aY HB hw107_1),(aY HB hw108_0),(aY HB hw108_1),(aY HB hw109_0),(aY HB hw109_1),HS6_⟩ (fun hHeld=>?_)
             clear hK K
             refine gA ?_
             refine bU ((0,16,52,131071)::[]) ?_
             iterate 1 (first|refine jT HT_ ?_)
             refine aU ?_
             refine eN (cK HT_.out (by kernel_rfl)) ?_
             try go_wp2
             go_roundg k4
             case measure=>have:=HK1.out;have:=HJ3.out;have:=HK3.out;have:=HK4.out;omega
             case rel=>exact ⟨(wrap64 (x6_4+1)),aH,H',⟨by have:=HK1.out;have:=HJ3.out;have:=HK3.out;have:=HK4.out;omega⟩,⟨bN HO_3⟩,⟨aX HB⟩⟩
           ·have H':=aE H
            clear H
            go_wp2
            go_roundg k4
            case measure=>have:=HK1.out;have:=HJ3.out;have:=HK3.out;have:=HK4.out;omega
            case rel=>exact ⟨(wrap64 (x5_3+1)),aH,H',⟨by have:=HK1.out;have:=HJ3.out;have:=HK3.out;have:=HK4.out;omega⟩,⟨bN HO_3⟩,⟨aX HB⟩⟩
        ·have H':=aE H
         clear H
         go_wp2
         go_roundg k3
         case measure=>have:=HK1.out;have:=HJ3.out;have:=HK3.out;omega
         case rel=>exact ⟨(wrap64 (x4_1+1)),aH,H',⟨by have:=HK1.out;have:=HJ3.out;have:=HK3.out;omega⟩,⟨bN HO_3⟩,⟨aX HB⟩⟩
     ·replace c7:=Bool.eq_false_iff.mpr c7
      subst c7
      rw [if_neg (show ¬ (false=true) by decide)] at H
      obtain ⟨y104,hy104⟩:∃ y_:List Int,y_=(([]:List Int)):=⟨_,rfl⟩
      first|(with_reducible replace H:=oO hy104 H)|(with_reducible replace H:=oP hy104 H)|rw [← hy104] at H
      have Ny104:=aE hy104
      clear hy104
      obtain rfl:=Option.some.inj H
      go_wp2_with (first|((with_reducible refine aN (N:=57) rfl ?_);(try (refine fS (by rfl) ?_;dsimp only));refine Kd.R_lit (Kd.int .i64) _ 3 ?hg (N:=57) ?hd (xs:=([]:List Int)) (inner:=[]) (ok:=fun _=>True) (okp:=fun _=>True) ?hr ?hp (fun _ hk=>hk) trivial (Below.refl _ _) (Nat.le_refl _) (by simp) ?_;(case hd=>rfl);(case hg=>rfl);(case hr=>first|(go_simp;done)|(go_simp;rfl));(case hp=>exact (kC.none _ _));intro v105 w26 ho27 hb hg_ hnew_;clear hg_ hnew_;(first|rw [← Ny104.out] at ho27|(simp only [Int.reduceToNat] at ho27;rw [← Ny104.out] at ho27));have HO106:=aE (Kd.R_lower (Kd.R_new' ho27 (Kd.R_lt (bN HO_3))) (aT (aX HB)));replace HO_3:=aE (Kd.R_elder' (bN HO_3) (Kd.R_base ho27) hb);replace HB:=aE (aD (aX HB) hb);clear hb ho27))
      go_ret
      exact ⟨_,bP,by (with_reducible repeat (first|apply kD|apply kE|apply gU));exact Kd.R_mono HO106.out (fun _ hk=>trivial),aX HB⟩
/-! ### impl_CenterTimes: function 21 -/
def CB (s:Int×Int) (p:cF):Int×Int:=(wrap64 (s.1+p.f0),wrap64 (s.2+p.f1))
def impl_CenterTimes.f (k:Nat) (l0:List cF):Option (Int×Int):=(impl_ArePoints.f k l0).bind fun t=>some (if t=true then l0.foldl CB (0,0) else (0,0))
def wW:Bool×List (List Nat×List Nat):=(true,[([],[]),([0],[0]),([],[]),([2],[2]),([1,3],[1,3]),([],[]),([5],[5]),([],[]),([7],[7]),([6,8],[6,8]),([0,1,2,3,4,5,6],[]),([10,4,0,1,2,3,4,5,6],[4,10]),([0,1,2,3,4,5,6,7,8,9,10,11],[]),([12,9,11,0,1,2,3,4,5,6,7,8,9,10,11],[9,12])])
theorem uS:iQ .any (iS Tryz.f21 6)=wW:=by kernel_rfl
theorem MI (l:List cF) (k:Nat) (h:k<l.length) (s:Int×Int):(l.drop k).foldl CB s=(l.drop (k+1)).foldl CB (CB s (aC l k)):=by
 rw [List.drop_eq_getElem_cons h]
 show _=_
 rw [List.foldl_cons]
 congr 2
 simp [aC,List.getD,List.getElem?_eq_getElem h]
set_option maxHeartbeats 8000000 in
set_option maxRecDepth 100000 in
theorem tG (k:Nat) (A0:Option Addr) (c0:Nat) (l0:List cF) (r1:Int) (r2:Int) (w:World) (hr0:Kd.C jW w A0 l0.length l0) (hc0:l0.length≤c0) (h:impl_CenterTimes.f k l0=some (r1,r2)) :
  Calls Tryz.prog 21 #[.slice A0 l0.length c0] w fun e w'=>e=.returned (.agg #[.int .i64 r1,.int .i64 r2])∧Below w.heap.size w w':=by
 have hu28:=Tryz.underlying28
 obtain ⟨t,ht,hr⟩:=DB h
 have hmax:l0.length≤9223372036854775807:=hr0.2.1
 have HT:=aE ht
 have HR:=aE hr0
 have HC:=aE hc0
 have HB:=aE (Below.refl w.heap.size w)
 clear h ht hr0 hc0
 cases t with
 | false =>
  have hr:((0:Int),(0:Int))=(r1,r2):=by simpa using hr
  injection hr with hr1 hr2
  subst hr1;subst hr2
  go_enter Tryz.func21,Tryz.ntmps21
  go_wp2_with (first|((with_reducible refine aN (N:=2) rfl ?_);refine jS ?hg (N:=2) ?hd (cs:=#[.int .i64 0,.int .i64 0]) (t:=28) ?hr ?_;(case hd=>rfl);(case hg=>rfl);(case hr=>first|(go_simp;done)|(go_simp;rfl));intro gb101 hg w2 hbox hb;have n0_:=aE (aD (by repeat (first|(with_reducible first|exact HB.out|apply mH|apply oN|apply jK)|exact HB.out)) hb);have n1_:=aE (hbox);have n2_:=aE ((by rw [hg];exact (aT (by repeat (first|(with_reducible first|exact HB.out|apply mH|apply oN|apply jK)|exact HB.out))):w.heap.size≤gb101));clear HB;have HB:=n0_;have BK101:=n1_;have GE101:=n2_;clear n0_ n1_ n2_;clear hb hbox hg)|((with_reducible refine aN (N:=3) rfl ?_);refine jS ?hg (N:=3) ?hd (cs:=#[.int .i64 0,.int .i64 0]) (t:=28) ?hr ?_;(case hd=>rfl);(case hg=>rfl);(case hr=>first|(go_simp;done)|(go_simp;rfl));intro gb102 hg w3 hbox hb;have n0_:=aE (aZ (g:=gb101) (o:=.cells #[.int .i64 0,.int .i64 0] 28 (0,0)) (by (with_reducible repeat (first|refine aM ?_ _|refine aI ?_|refine aK ?_ _));exact BK101.out) hb);have n1_:=aE (aD (by repeat (first|(with_reducible first|exact HB.out|apply mH|apply oN|apply jK|refine cE ?_ GE101.out)|exact HB.out)) hb);have n2_:=aE (hbox);have n3_:=aE ((by rw [hg];exact (aT (by repeat (first|(with_reducible first|exact HB.out|apply mH|apply oN|apply jK|refine cE ?_ GE101.out)|exact HB.out))):w.heap.size≤gb102));have n4_:=aE ((by rw [hg];exact Nat.ne_of_lt (gB (g:=gb101) (o:=.cells #[.int .i64 0,.int .i64 0] 28 (0,0)) (by (with_reducible repeat (first|refine aM ?_ _|refine aI ?_|refine aK ?_ _));exact BK101.out)):gb101≠gb102));have n5_:=aE ((by rw [hg];exact Nat.ne_of_gt (gB (g:=gb101) (o:=.cells #[.int .i64 0,.int .i64 0] 28 (0,0)) (by (with_reducible repeat (first|refine aM ?_ _|refine aI ?_|refine aK ?_ _));exact BK101.out)):gb102≠gb101));clear BK101;clear HB;have BK101:=n0_;have HB:=n1_;have BK102:=n2_;have GE102:=n3_;have NB101_102:=n4_;have NB102_101:=n5_;clear n0_ n1_ n2_ n3_ n4_ n5_;clear hb hbox hg)|(go_at_call 30;(with_reducible refine (cA k _ _ l0 false _ ?side1 ?side2 HT.out).mono ?_);(case side1=>repeat (first|exact (Kd.C_below HR.out HB.out)|(with_reducible refine Kd.C_alloc ?_ _)|(with_reducible refine Kd.C_drewN ?_ _)|(with_reducible refine Kd.C_drew ?_)));(case side2=>exact HC.out);rintro e w10 ⟨rfl,hb⟩;have n0_:=aE (aZ (g:=gb101) (o:=.cells #[.int .i64 0,.int .i64 0] 28 (0,0)) (by (with_reducible repeat (first|refine aM ?_ _|refine aI ?_|refine aK ?_ _));exact BK101.out) hb);have n1_:=aE (aZ (g:=gb102) (o:=.cells #[.int .i64 0,.int .i64 0] 28 (0,0)) (by (with_reducible repeat (first|refine aM ?_ _|refine aI ?_|refine aK ?_ _));exact BK102.out) hb);have n2_:=aE (aD (by repeat (first|(with_reducible first|exact HB.out|apply mH|apply oN|apply jK|refine cE ?_ GE101.out|refine cE ?_ GE102.out)|exact HB.out)) hb);clear BK101;clear BK102;clear HB;have BK101:=n0_;have BK102:=n1_;have HB:=n2_;clear n0_ n1_ n2_;clear hb;have hnb1:=NB101_102.out;have hnc1:=NB102_101.out;have hcz1_0:w10.cell? ⟨gb101,0,none⟩=some (.int .i64 0):=(bK BK101.out 0).trans rfl;have hcz1_1:w10.cell? ⟨gb101,1,none⟩=some (.int .i64 0):=(bK BK101.out 1).trans rfl;have hfz1_0:=aA BK101.out 0;have hfz1_1:=aA BK101.out 1;have hcz2_0:w10.cell? ⟨gb102,0,none⟩=some (.int .i64 0):=(bK BK102.out 0).trans rfl;have hcz2_1:w10.cell? ⟨gb102,1,none⟩=some (.int .i64 0):=(bK BK102.out 1).trans rfl;have hfz2_0:=aA BK102.out 0;have hfz2_1:=aA BK102.out 1))
  refine bodyPost_ret (results_cell_row rfl _ _ gb101 28 #[.int .i64 0,.int .i64 0] (0,0) _ rfl (by (with_reducible repeat (first|refine aM ?_ _|refine aI ?_|refine aK ?_ _));refine bQ (cs:=#[.int .i64 0,.int .i64 0]) ?_ 1 _ rfl;(with_reducible repeat (first|refine aM ?_ _|refine aI ?_|refine aK ?_ _));refine bQ (cs:=#[.int .i64 0,.int .i64 0]) ?_ 0 _ rfl;(with_reducible repeat (first|refine aM ?_ _|refine aI ?_|refine aK ?_ _));exact BK101.out) Tryz.underlying28 rfl (by kernel_rfl)) rfl ?_
  exact ⟨rfl,by repeat (first|(with_reducible first|exact HB.out|apply mH|apply oN|apply jK|refine cE ?_ GE101.out|refine cE ?_ GE102.out)|exact HB.out)⟩
 | true =>
  have hr:l0.foldl CB (0,0)=(r1,r2):=by simpa using hr
  have HE:=aE hr
  clear hr
  go_enter Tryz.func21,Tryz.ntmps21
  go_wp2_with (first|((with_reducible refine aN (N:=2) rfl ?_);refine jS ?hg (N:=2) ?hd (cs:=#[.int .i64 0,.int .i64 0]) (t:=28) ?hr ?_;(case hd=>rfl);(case hg=>rfl);(case hr=>first|(go_simp;done)|(go_simp;rfl));intro gb101 hg w2 hbox hb;have n0_:=aE (aD (by repeat (first|(with_reducible first|exact HB.out|apply mH|apply oN|apply jK)|exact HB.out)) hb);have n1_:=aE (hbox);have n2_:=aE ((by rw [hg];exact (aT (by repeat (first|(with_reducible first|exact HB.out|apply mH|apply oN|apply jK)|exact HB.out))):w.heap.size≤gb101));clear HB;have HB:=n0_;have BK101:=n1_;have GE101:=n2_;clear n0_ n1_ n2_;clear hb hbox hg)|((with_reducible refine aN (N:=3) rfl ?_);refine jS ?hg (N:=3) ?hd (cs:=#[.int .i64 0,.int .i64 0]) (t:=28) ?hr ?_;(case hd=>rfl);(case hg=>rfl);(case hr=>first|(go_simp;done)|(go_simp;rfl));intro gb102 hg w3 hbox hb;have n0_:=aE (aZ (g:=gb101) (o:=.cells #[.int .i64 0,.int .i64 0] 28 (0,0)) (by (with_reducible repeat (first|refine aM ?_ _|refine aI ?_|refine aK ?_ _));exact BK101.out) hb);have n1_:=aE (aD (by repeat (first|(with_reducible first|exact HB.out|apply mH|apply oN|apply jK|refine cE ?_ GE101.out)|exact HB.out)) hb);have n2_:=aE (hbox);have n3_:=aE ((by rw [hg];exact (aT (by repeat (first|(with_reducible first|exact HB.out|apply mH|apply oN|apply jK|refine cE ?_ GE101.out)|exact HB.out))):w.heap.size≤gb102));have n4_:=aE ((by rw [hg];exact Nat.ne_of_lt (gB (g:=gb101) (o:=.cells #[.int .i64 0,.int .i64 0] 28 (0,0)) (by (with_reducible repeat (first|refine aM ?_ _|refine aI ?_|refine aK ?_ _));exact BK101.out)):gb101≠gb102));have n5_:=aE ((by rw [hg];exact Nat.ne_of_gt (gB (g:=gb101) (o:=.cells #[.int .i64 0,.int .i64 0] 28 (0,0)) (by (with_reducible repeat (first|refine aM ?_ _|refine aI ?_|refine aK ?_ _));exact BK101.out)):gb102≠gb101));clear BK101;clear HB;have BK101:=n0_;have HB:=n1_;have BK102:=n2_;have GE102:=n3_;have NB101_102:=n4_;have NB102_101:=n5_;clear n0_ n1_ n2_ n3_ n4_ n5_;clear hb hbox hg)|(go_at_call 30;(with_reducible refine (cA k _ _ l0 true _ ?side1 ?side2 HT.out).mono ?_);(case side1=>repeat (first|exact (Kd.C_below HR.out HB.out)|(with_reducible refine Kd.C_alloc ?_ _)|(with_reducible refine Kd.C_drewN ?_ _)|(with_reducible refine Kd.C_drew ?_)));(case side2=>exact HC.out);rintro e w10 ⟨rfl,hb⟩;have n0_:=aE (aZ (g:=gb101) (o:=.cells #[.int .i64 0,.int .i64 0] 28 (0,0)) (by (with_reducible repeat (first|refine aM ?_ _|refine aI ?_|refine aK ?_ _));exact BK101.out) hb);have n1_:=aE (aZ (g:=gb102) (o:=.cells #[.int .i64 0,.int .i64 0] 28 (0,0)) (by (with_reducible repeat (first|refine aM ?_ _|refine aI ?_|refine aK ?_ _));exact BK102.out) hb);have n2_:=aE (aD (by repeat (first|(with_reducible first|exact HB.out|apply mH|apply oN|apply jK|refine cE ?_ GE101.out|refine cE ?_ GE102.out)|exact HB.out)) hb);clear BK101;clear BK102;clear HB;have BK101:=n0_;have BK102:=n1_;have HB:=n2_;clear n0_ n1_ n2_;clear hb))
  go_loopg [10] l0.length (fun gg v10 wr=>∃ (kk:Nat) (x y:Int),v10=.int .i64 kk∧kk≤l0.length∧l0.length-kk≤gg∧Aside0 ((l0.drop kk).foldl CB (x,y)=(r1,r2))∧Aside0 (wr.heap[gb101]? = some (.cells #[.int .i64 0,.int .i64 0] 28 (0,0)))∧Aside0 (wr.heap[gb102]? = some (.cells #[.int .i64 x,.int .i64 y] 28 (0,0)))∧Aside0 (Below w.heap.size w wr))
  case atStart=>exact ⟨0,0,0,rfl,Nat.zero_le _,by omega,⟨by simpa using HE.out⟩,BK101,BK102,HB⟩
  case round =>
   obtain ⟨kk,x,y,rfl,hkk,hg,HF,BK101,BK102,HB⟩:=hrel
   by_cases hlt:kk<l0.length
   ·have hltz:(kk:Int)<(l0.length:Int):=by omega
    have h0z:(0:Int)≤(kk:Int):=by omega
    obtain ⟨ad,rfl,hx0,hx1⟩:=bW (Kd.C_below HR.out HB.out) (kk:Int) h0z hltz
    simp only [Int.toNat_natCast] at hx0 hx1
    have HF2:=aE ((MI l0 kk hlt (x,y)).symm.trans HF.out)
    generalize aC l0 (kk:Int)=pp at hx0 hx1 HF2
    go_wp2_with (first|((with_reducible refine aN (N:=5) rfl ?_);refine jS ?hg (N:=5) ?hd (cs:=#[.int .i64 0,.int .i64 0]) (t:=28) ?hr ?_;(case hd=>rfl);(case hg=>rfl);(case hr=>first|(go_simp;done)|(go_simp;rfl));intro gb103 hg w24 hbox hb;have n0_:=aE (aZ (g:=gb101) (o:=.cells #[.int .i64 0,.int .i64 0] 28 (0,0)) (by (with_reducible repeat (first|refine aM ?_ _|refine aI ?_|refine aK ?_ _));exact BK101.out) hb);have n1_:=aE (aZ (g:=gb102) (o:=.cells #[.int .i64 x,.int .i64 y] 28 (0,0)) (by (with_reducible repeat (first|refine aM ?_ _|refine aI ?_|refine aK ?_ _));exact BK102.out) hb);have n2_:=aE (aD (by repeat (first|(with_reducible first|exact HB.out|apply mH|apply oN|apply jK|refine cE ?_ GE101.out|refine cE ?_ GE102.out)|exact HB.out)) hb);have n3_:=aE (hbox);have n4_:=aE ((by rw [hg];exact (aT (by repeat (first|(with_reducible first|exact HB.out|apply mH|apply oN|apply jK|refine cE ?_ GE101.out|refine cE ?_ GE102.out)|exact HB.out))):w.heap.size≤gb103));have n5_:=aE ((by rw [hg];exact Nat.ne_of_lt (gB (g:=gb101) (o:=.cells #[.int .i64 0,.int .i64 0] 28 (0,0)) (by (with_reducible repeat (first|refine aM ?_ _|refine aI ?_|refine aK ?_ _));exact BK101.out)):gb101≠gb103));have n6_:=aE ((by rw [hg];exact Nat.ne_of_gt (gB (g:=gb101) (o:=.cells #[.int .i64 0,.int .i64 0] 28 (0,0)) (by (with_reducible repeat (first|refine aM ?_ _|refine aI ?_|refine aK ?_ _));exact BK101.out)):gb103≠gb101));have n7_:=aE ((by rw [hg];exact Nat.ne_of_lt (gB (g:=gb102) (o:=.cells #[.int .i64 x,.int .i64 y] 28 (0,0)) (by (with_reducible repeat (first|refine aM ?_ _|refine aI ?_|refine aK ?_ _));exact BK102.out)):gb102≠gb103));have n8_:=aE ((by rw [hg];exact Nat.ne_of_gt (gB (g:=gb102) (o:=.cells #[.int .i64 x,.int .i64 y] 28 (0,0)) (by (with_reducible repeat (first|refine aM ?_ _|refine aI ?_|refine aK ?_ _));exact BK102.out)):gb103≠gb102));clear BK101;clear BK102;clear HB;have BK101:=n0_;have BK102:=n1_;have HB:=n2_;have BK103:=n3_;have GE103:=n4_;have NB101_103:=n5_;have NB103_101:=n6_;have NB102_103:=n7_;have NB103_102:=n8_;clear n0_ n1_ n2_ n3_ n4_ n5_ n6_ n7_ n8_;clear hb hbox hg;have hcz3_0:w24.cell? ⟨gb103,0,none⟩=some (.int .i64 0):=(bK BK103.out 0).trans rfl;have hcz3_1:w24.cell? ⟨gb103,1,none⟩=some (.int .i64 0):=(bK BK103.out 1).trans rfl;have hfz3_0:=aA BK103.out 0;have hfz3_1:=aA BK103.out 1))
    have m1_:Aside0 (((w24.setCell ⟨gb103,0,none⟩ (.int .i64 pp.f0)).setCell ⟨gb103,1,none⟩ (.int .i64 pp.f1)).heap[gb101]? = some (.cells #[.int .i64 0,.int .i64 0] 28 (0,0))):=⟨bC (bC BK101.out NB101_103.out _) NB101_103.out _⟩
    have m2_:Aside0 (((w24.setCell ⟨gb103,0,none⟩ (.int .i64 pp.f0)).setCell ⟨gb103,1,none⟩ (.int .i64 pp.f1)).heap[gb102]? = some (.cells #[.int .i64 x,.int .i64 y] 28 (0,0))):=⟨bC (bC BK102.out NB102_103.out _) NB102_103.out _⟩
    have m3_:Aside0 (((w24.setCell ⟨gb103,0,none⟩ (.int .i64 pp.f0)).setCell ⟨gb103,1,none⟩ (.int .i64 pp.f1)).heap[gb103]? = some (.cells #[.int .i64 pp.f0,.int .i64 pp.f1] 28 (0,0))):=⟨bQ (cs:=#[.int .i64 pp.f0,.int .i64 0]) (bQ (cs:=#[.int .i64 0,.int .i64 0]) BK103.out 0 _ rfl) 1 _ rfl⟩
    have m4_:Aside0 (Below w.heap.size w ((w24.setCell ⟨gb103,0,none⟩ (.int .i64 pp.f0)).setCell ⟨gb103,1,none⟩ (.int .i64 pp.f1))):=⟨cE (cE HB.out GE103.out) GE103.out⟩
    clear BK101 BK102 BK103 HB hcz3_0 hcz3_1 hfz3_0 hfz3_1 hx0 hx1
    generalize ((w24.setCell ⟨gb103,0,none⟩ (.int .i64 pp.f0)).setCell ⟨gb103,1,none⟩ (.int .i64 pp.f1))=w25 at m1_ m2_ m3_ m4_ ⊢
    have BK101:=aE (aI m1_.out)
    have BK102:=aE (aI m2_.out)
    have BK103:=aE (aI m3_.out)
    have HB:=aE (jK m4_.out)
    clear m1_ m2_ m3_ m4_
    refine dA (n:=14) (S:=fun w'=>w'.cell? ⟨gb103,0,none⟩=some (.int .i64 pp.f0)∧w'.cell? ⟨gb103,1,none⟩=some (.int .i64 pp.f1)∧w'.cell? ⟨gb102,1,none⟩=some (.int .i64 y)) (ds:=[13]) (bm 14 0) (by kernel_rfl) rfl rfl ⟨(bK BK103.out 0).trans rfl,(bK BK103.out 1).trans rfl,(bK BK102.out 1).trans rfl⟩ (fun hHeld=>?_);refine DS uS (fun HT_=>?_)
    generalize w25.drew=w26 at BK101 BK102 BK103 HB hHeld ⊢
    refine bU ((0,0,14,1)::(0,2,16,5)::(0,5,19,37)::(0,7,21,165)::(2,3,17,173)::(2,6,20,237)::(2,8,22,493)::(0,9,23,1005)::[]) ?_
    iterate 8 (first|(refine mD ?_ ?_ rfl rfl (lN HT_.out (by kernel_rfl)) (fun _ _ _ h=>h) (Or.inl ⟨by rfl,?_⟩) ?_ ?_;rotate_left 2;(· intro w';go_simp;with_reducible rfl);(· simp only [Act.put,List.setIfInBounds_toArray,List.set_cons_zero,List.set_cons_succ,cC,dW];rfl))|(refine AP ?_ ?_ rfl rfl (NI HT_.out (by kernel_rfl)) (fun _ _ _ h=>h) (Or.inl ⟨by rfl,?_⟩) hHeld ?_ ?_;rotate_left 2;(· rintro w' ⟨s0,s1,s2⟩;go_simp;with_reducible rfl);(· simp only [Act.put,List.setIfInBounds_toArray,List.set_cons_zero,List.set_cons_succ,cC,dW];rfl)))
    refine aU ?_
    refine dQ (i:=1) (N:=some 15) (bm 14 1007) rfl rfl (bJ HT_.out (by kernel_rfl)) (by decide) (fun K hK=>?_)
    have hl1:w26.cell? ⟨gb102,0,none⟩=some (.int .i64 x):=(bK BK102.out 0).trans rfl
    refine VX (w1:=?_) (v:=?_) (by rfl) rfl ?_ ?_
    rotate_left 2
    ·go_simp
     constructor
     ·rfl
     ·rfl
    refine hK.out _ _ hHeld (fun hHeld=>?_)
    clear hK K hl1
    refine QH (a':=?_) ?_ ?_
    rotate_left
    ·show Act.put _ (some 15) _=_
     simp only [Act.put,List.setIfInBounds_toArray,List.set_cons_zero,List.set_cons_succ,cC,dW]
     rfl
    refine bU ((0,4,18,1023)::(0,10,24,2047)::[]) ?_
    iterate 2 (refine mD ?_ ?_ rfl rfl (lN HT_.out (by kernel_rfl)) (fun _ _ _ h=>h) (Or.inl ⟨by rfl,?_⟩) ?_ ?_;rotate_left 2;(· intro w';go_simp;with_reducible rfl);(· simp only [Act.put,List.setIfInBounds_toArray,List.set_cons_zero,List.set_cons_succ,cC,dW];rfl))
    refine aU ?_
    refine dQ (i:=11) (N:=none) (bm 14 4095) rfl rfl (bJ HT_.out (by kernel_rfl)) (by decide) (fun K hK=>?_)
    have hs1:w26.cell? ⟨gb102,0,none⟩=some (.int .i64 x):=(bK BK102.out 0).trans rfl
    have hfs1:=aA BK102.out 0
    refine kY (w1:=?_) (by rfl) rfl ?_ ?_
    rotate_left
    ·go_simp
     rfl
    have m1_:Aside0 ((w26.setCell ⟨gb102,0,none⟩ (.int .i64 (wrap64 (x+pp.f0)))).heap[gb101]? = some (.cells #[.int .i64 0,.int .i64 0] 28 (0,0))):=⟨bC BK101.out NB101_102.out _⟩
    have m2_:Aside0 ((w26.setCell ⟨gb102,0,none⟩ (.int .i64 (wrap64 (x+pp.f0)))).heap[gb102]? = some (.cells #[.int .i64 (wrap64 (x+pp.f0)),.int .i64 y] 28 (0,0))):=⟨bQ (cs:=#[.int .i64 x,.int .i64 y]) BK102.out 0 _ rfl⟩
    have m3_:Aside0 ((w26.setCell ⟨gb102,0,none⟩ (.int .i64 (wrap64 (x+pp.f0)))).heap[gb103]? = some (.cells #[.int .i64 pp.f0,.int .i64 pp.f1] 28 (0,0))):=⟨bC BK103.out NB103_102.out _⟩
    have m4_:Aside0 (Below w.heap.size w (w26.setCell ⟨gb102,0,none⟩ (.int .i64 (wrap64 (x+pp.f0))))):=⟨cE HB.out GE102.out⟩
    clear BK101 BK102 BK103 HB hs1 hfs1 hHeld
    refine hK.out _ _ ⟨(bK m3_.out 0).trans rfl,(bK m3_.out 1).trans rfl,(bK m2_.out 1).trans rfl⟩ (fun hHeld=>?_)
    clear hK K
    generalize (w26.setCell ⟨gb102,0,none⟩ (.int .i64 (wrap64 (x+pp.f0))))=w28 at m1_ m2_ m3_ m4_ hHeld ⊢
    refine bU ((0,12,25,8191)::[]) ?_
    iterate 1 (refine mD ?_ ?_ rfl rfl (lN HT_.out (by kernel_rfl)) (fun _ _ _ h=>h) (Or.inl ⟨by rfl,?_⟩) ?_ ?_;rotate_left 2;(· intro w';go_simp;with_reducible rfl);(· simp only [Act.put,List.setIfInBounds_toArray,List.set_cons_zero,List.set_cons_succ,cC,dW];rfl))
    refine aU ?_
    refine BZ (i:=13) (N:=none) (bm 14 16383) rfl rfl (bJ HT_.out (by kernel_rfl)) (by decide) (fun K hK=>?_)
    have hs2:w28.cell? ⟨gb102,1,none⟩=some (.int .i64 y):=(bK m2_.out 1).trans rfl
    have hfs2:=aA m2_.out 1
    refine kY (w1:=?_) (by rfl) rfl ?_ ?_
    rotate_left
    ·go_simp
     rfl
    refine hK.out _ _ ?_
    clear hK K
    refine eN (cK HT_.out (by kernel_rfl)) ?_
    try go_wp2
    go_roundg (l0.length-(kk+1))
    case measure=>omega
    case rel=>exact ⟨kk+1,(wrap64 (x+pp.f0)),(wrap64 (y+pp.f1)),by go_num,by omega,by omega,HF2,⟨bC m1_.out NB101_102.out _⟩,⟨bQ (cs:=#[.int .i64 (wrap64 (x+pp.f0)),.int .i64 y]) m2_.out 1 _ rfl⟩,⟨cE m4_.out GE102.out⟩⟩
   ·have hltz:¬ (kk:Int)<(l0.length:Int):=by omega
    have hf:(x,y)=(r1,r2):=by have:=HF.out;rw [List.drop_of_length_le (by omega)] at this;exact this
    injection hf with hf1 hf2
    subst hf1;subst hf2
    have hnb1:=NB101_102.out;have hnc1:=NB102_101.out
    have hcz1_0:wr.cell? ⟨gb101,0,none⟩=some (.int .i64 0):=(bK BK101.out 0).trans rfl;have hcz1_1:wr.cell? ⟨gb101,1,none⟩=some (.int .i64 0):=(bK BK101.out 1).trans rfl;have hfz1_0:=aA BK101.out 0;have hfz1_1:=aA BK101.out 1
    have hcz2_0:wr.cell? ⟨gb102,0,none⟩=some (.int .i64 x):=(bK BK102.out 0).trans rfl;have hcz2_1:wr.cell? ⟨gb102,1,none⟩=some (.int .i64 y):=(bK BK102.out 1).trans rfl;have hfz2_0:=aA BK102.out 0;have hfz2_1:=aA BK102.out 1
    go_wp2
    refine bodyPost_ret (results_cell_row rfl _ _ gb101 28 #[.int .i64 x,.int .i64 y] (0,0) _ rfl (by (with_reducible repeat (first|refine aM ?_ _|refine aI ?_|refine aK ?_ _));refine bQ (cs:=#[.int .i64 x,.int .i64 0]) ?_ 1 _ rfl;(with_reducible repeat (first|refine aM ?_ _|refine aI ?_|refine aK ?_ _));refine bQ (cs:=#[.int .i64 0,.int .i64 0]) ?_ 0 _ rfl;(with_reducible repeat (first|refine aM ?_ _|refine aI ?_|refine aK ?_ _));exact BK101.out) Tryz.underlying28 rfl (by kernel_rfl)) rfl ?_
    exact ⟨rfl,by repeat (first|(with_reducible first|exact HB.out|apply mH|apply oN|apply jK|refine cE ?_ GE101.out|refine cE ?_ GE102.out)|exact HB.out)⟩
end Go.Proofs.YteaagaekdkolnaaGreat.P

