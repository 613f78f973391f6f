/- A part of the proof of FnGrid: printed contracts and plain laws, joined by a program of this session. -/
import Derived.Test.YteaagaekdkolnaaGreatZFnGrid5
import Derived.KernelRfl
namespace Go.Proofs.YteaagaekdkolnaaGreat.P
open Go.RowKit Go.Proofs.YteaagaekdkolnaaGreatW.PrintWords Go.Proofs.YteaagaekdkolnaaGreatW.PrintLast Go.Proofs.YteaagaekdkolnaaGreatW.PrintMore
attribute [local go_sem] max2_int min2_int max_two min_two max_three min_three max_four min_four
set_option linter.unusedVariables false
set_option linter.unusedSimpArgs false
/-! ### spec_CenterTimes: function 22 -/
def cH:Nat→List (cF)→Int→Int→Int→Option (Int×Int)
 | 0,_,_,_,_=>none
 | k+1,x0,x4,x103000,x103001=>if x4<(x0.length:Int) then ((spec_ArePoints.f k x0).bind fun t103=>(if t103=true then (if 0≤x4 then (cH k x0 (wrap64 (x4+1)) (wrap64 (x103000+((aC x0 x4).f0))) (wrap64 (x103001+((aC x0 x4).f1)))) else (none)) else (some (x103000,x103001)))) else (some (x103000,x103001))
def spec_CenterTimes.f (k:Nat) (l0:List (cF)):Option (Int×Int):=cH k l0 0 0 0
def pB:Bool×List (List Nat×List Nat):=(true,[([],[]),([0],[0]),([],[]),([],[]),([2,3],[2,3]),([4],[4]),([5],[5]),([1,6],[1,6]),([0,1,2,3,4,5,6,7],[]),([8,7,0,1,2,3,4,5,6,7],[7,8])])
def wX:List Nat:=[0,1,0,0,12,28,60,127,255,511]
theorem uT:iQ .any (iS Tryz.f22 5)=pB:=by kernel_rfl
theorem tI:dM pB.2 wX=true:=by kernel_rfl
def pC:Bool×List (List Nat×List Nat):=(true,[([],[]),([0],[0]),([],[]),([],[]),([2,3],[2,3]),([4],[4]),([5],[5]),([1,6],[1,6]),([0,1,2,3,4,5,6,7],[]),([8,7,0,1,2,3,4,5,6,7],[7,8])])
def wY:List Nat:=[0,1,0,0,12,28,60,127,255,511]
theorem uU:iQ .any (iS Tryz.f22 6)=pC:=by kernel_rfl
theorem tJ:dM pC.2 wY=true:=by kernel_rfl
set_option maxHeartbeats 8000000 in
set_option maxRecDepth 100000 in
theorem tK (k:Nat) (A0:Option Addr) (c0:Nat) (l0:List (cF)) (r1:Int) (r2:Int) (w:World) (hr0:Kd.C jW w A0 l0.length l0) (hc0:l0.length≤c0) (h:spec_CenterTimes.f k l0=some (r1,r2)) :
  Calls Tryz.prog 22 #[.slice A0 l0.length c0] w fun e w'=>e=.returned (.agg #[.int .i64 r1,.int .i64 r2])∧Below w.heap.size w w':=by
 have hu28:=Tryz.underlying28
 have HR0:=aE hr0
 have HC0:=aE hc0
 clear hr0 hc0
 have HB:=aE (Below.refl w.heap.size w)
 unfold spec_CenterTimes.f at h
 have H:=h
 clear h
 have H':=aE H
 clear H
 go_enter Tryz.func22,Tryz.ntmps22
 go_wp2_with (first|((with_reducible refine aN (N:=2) rfl ?_);refine bV (N:=2) #[.int .i64 0,.int .i64 0] 28 ?_;intro gb101 hg w2 hbox hb;have BK101:=aE (hbox);have GW101:=aE ((dX HB hg));have GE101:=aE ((dX HB hg));replace HB:=aE (aD (aX HB) hb);clear hb hbox hg)|((with_reducible refine aN (N:=3) rfl ?_);refine bV (N:=3) #[.int .i64 0,.int .i64 0] 28 ?_;intro gb102 hg w3 hbox hb;have BK102:=aE (hbox);have GW102:=aE ((dX HB hg));have GE102:=aE ((dX HB hg));replace HB:=aE (aD (aX HB) hb);have NB101_102:=aE ((iX BK101 hg));have NB102_101:=aE ((iY BK101 hg));replace BK101:=aE (bB BK101 hb);clear hb hbox hg;have hnb4:=NB102_101.out;have hnc4:=NB101_102.out;have hcz5_0:=aW BK102 0;have hcz5_1:=aW BK102 1;have hfz5_0:=aA BK102.out 0;have hfz5_1:=aA BK102.out 1))
 go_loopg [4] k (fun kq v4 w'=>∃ (x4_1:Int) (x103000_1:Int) (x103001_1:Int),v4=.int .i64 x4_1∧Aside0 (cH kq l0 x4_1 x103000_1 x103001_1=some (r1,r2))∧Aside0 (kq≤k)∧Aside0 (w'.heap[gb101]? = some (.cells #[.int .i64 0,.int .i64 0] 28 (0,0)))∧Aside0 (w'.heap[gb102]? = some (.cells #[.int .i64 x103000_1,.int .i64 x103001_1] 28 (0,0)))∧Aside0 (Below w.heap.size w w'))
 case atStart=>exact ⟨(0),(0),(0),aH,H',⟨Nat.le_refl _⟩,⟨jR BK101⟩,⟨jR BK102⟩,⟨aX HB⟩⟩
 case round =>
  clear H'
  try clear hcz5_0
  try clear hcz5_1
  try clear hfz5_0
  try clear hfz5_1
  obtain ⟨x4_1,x103000_1,x103001_1,rfl,HA,HK1,BK101,BK102,HB⟩:=hrel
  cases gk with
  | zero=>exact absurd HA.out (by simp [cH])
  | succ k1 =>
   have H:=HA.out
   clear HA
   simp only [cH] at H
   rcases eV H with ⟨c6b0,H⟩|⟨c6b0,H⟩
   ·replace H:=DB H
    obtain ⟨t103,A70,H⟩:=H
    replace H:(if t103=true then (if 0≤x4_1 then (cH k1 l0 (wrap64 (x4_1+1)) (wrap64 (x103000_1+((aC l0 x4_1).f0))) (wrap64 (x103001_1+((aC l0 x4_1).f1)))) else (none)) else (some (x103000_1,x103001_1)))=some (r1,r2):=H
    have A7:=aE A70
    clear A70
    by_cases c8:t103=true
    ·subst c8
     rw [if_pos rfl] at H
     obtain ⟨c9b0,H⟩:=cV H
     have H':=aE H
     clear H
     try go_wp2_with (first|(go_at_call 23;(with_reducible refine (cB k1 _ _ l0 true _ ?side1 ?side2 A7.out).mono ?_);(case side1=>exact kJ (Kd.C_below HR0.out HB.out));(case side2=>exact HC0.out);rintro e w10 ⟨rfl,hb⟩;replace BK101:=aE (bB BK101 hb);replace BK102:=aE (bB BK102 hb);replace HB:=aE (aD (aX HB) hb);(try clear hb)))
     replace BK101:=aE (aI BK101.out)
     replace BK102:=aE (aI BK102.out)
     replace HB:=aE (jK HB.out)
     have p104:0≤(x4_1:Int):=bI
     have q104:x4_1<(l0.length:Int):=bI
     obtain ⟨ad104,e104,hx104_0,hx104_1⟩:=bW HR0.out x4_1 p104 q104
     have hw104_1:=hx104_1
     have hw104_0:=hx104_0
     cases e104
     replace hx104_0:=aY HB hx104_0
     replace hx104_1:=aY HB hx104_1
     replace p104:=eq_true p104
     replace q104:=eq_true q104
     refine dA (n:=10) (S:=fun w'=>w'.cell? ⟨gb102,0,none⟩=some (.int .i64 x103000_1)∧w'.cell? ⟨gb102,1,none⟩=some (.int .i64 x103001_1)∧w'.cell? (ad104.add ((x4_1).toNat*2))=some (.int .i64 ((aC l0 x4_1).f0))∧w'.cell? ⟨(ad104.add ((x4_1).toNat*2)).block,(ad104.add ((x4_1).toNat*2)).off+1,none⟩=some (.int .i64 ((aC l0 x4_1).f1))) (ds:=[9]) (bm 10 0) (by kernel_rfl) rfl rfl ⟨aW BK102 0,aW BK102 1,(aY HB hw104_0),(aY HB hw104_1)⟩ (fun hHeld=>?_);refine bO uT tI (fun HT_ HW_=>?_)
     generalize w10.drew=w11 at BK101 BK102 HB hx104_0 hx104_1 hHeld ⊢
     refine bU ((0,0,16,1)::(0,2,18,5)::(0,3,19,13)::(0,4,20,29)::(0,5,21,61)::(2,1,17,63)::(2,6,22,127)::(0,7,23,255)::(0,8,24,511)::[]) ?_
     iterate 9 (first|refine jT HT_ ?_|refine pZ HT_ HW_ hHeld ?_)
     refine aU ?_
     refine BZ (i:=9) (N:=none) (bm 10 1023) rfl rfl (bJ HT_.out (by kernel_rfl)) (by decide) (fun K hK=>?_)
     have hs12:w11.cell? ⟨gb102,0,none⟩=some (.int .i64 x103000_1):=aW BK102 0
     have hfs12:=aA BK102.out 0
     have hns12_0:=NB101_102.out
     have hms12_0:=NB102_101.out
     refine kY (w1:=?_) (by rfl) rfl ?_ ?_
     rotate_left
     ·go_simp
      rfl
     refine hK.out _ _ ?_
     clear hK K
     refine eN (cK HT_.out (by kernel_rfl)) ?_
     try go_wp2
     replace BK101:Aside0 ((w11.setCell ⟨gb102,0,none⟩ (.int .i64 (wrap64 (x103000_1+((aC l0 x4_1).f0))))).heap[gb101]? = some (.cells #[.int .i64 0,.int .i64 0] 28 (0,0))):=⟨jR BK101⟩
     replace BK102:Aside0 ((w11.setCell ⟨gb102,0,none⟩ (.int .i64 (wrap64 (x103000_1+((aC l0 x4_1).f0))))).heap[gb102]? = some (.cells #[.int .i64 (wrap64 (x103000_1+((aC l0 x4_1).f0))),.int .i64 x103001_1] 28 (0,0))):=⟨jR BK102⟩
     replace HB:Aside0 (Below w.heap.size w (w11.setCell ⟨gb102,0,none⟩ (.int .i64 (wrap64 (x103000_1+((aC l0 x4_1).f0)))))):=⟨aX HB⟩
     generalize (w11.setCell ⟨gb102,0,none⟩ (.int .i64 (wrap64 (x103000_1+((aC l0 x4_1).f0)))))=w13 at BK101 BK102 HB ⊢
     replace BK101:=aE (aI BK101.out)
     replace BK102:=aE (aI BK102.out)
     replace HB:=aE (jK HB.out)
     have p105:0≤(x4_1:Int):=bI
     have q105:x4_1<(l0.length:Int):=bI
     obtain ⟨ad105,e105,hx105_0,hx105_1⟩:=bW HR0.out x4_1 p105 q105
     have hw105_1:=hx105_1
     have hw105_0:=hx105_0
     obtain rfl:ad104=ad105:=(by injection e105)
     replace hx105_0:=aY HB hx105_0
     replace hx105_1:=aY HB hx105_1
     replace p105:=eq_true p105
     replace q105:=eq_true q105
     refine dA (n:=10) (S:=fun w'=>w'.cell? ⟨gb102,0,none⟩=some (.int .i64 (wrap64 (x103000_1+((aC l0 x4_1).f0))))∧w'.cell? ⟨gb102,1,none⟩=some (.int .i64 x103001_1)∧w'.cell? (ad104.add ((x4_1).toNat*2))=some (.int .i64 ((aC l0 x4_1).f0))∧w'.cell? ⟨(ad104.add ((x4_1).toNat*2)).block,(ad104.add ((x4_1).toNat*2)).off+1,none⟩=some (.int .i64 ((aC l0 x4_1).f1))) (ds:=[9]) (bm 10 0) (by kernel_rfl) rfl rfl ⟨aW BK102 0,aW BK102 1,(aY HB hw105_0),(aY HB hw105_1)⟩ (fun hHeld=>?_);refine bO uU tJ (fun HT_ HW_=>?_)
     generalize w13.drew=w14 at BK101 BK102 HB hx105_0 hx105_1 hHeld ⊢
     refine bU ((0,0,25,1)::(0,2,27,5)::(0,3,28,13)::(0,4,29,29)::(0,5,30,61)::(2,1,26,63)::(2,6,31,127)::(0,7,32,255)::(0,8,33,511)::[]) ?_
     iterate 9 (first|refine jT HT_ ?_|refine pZ HT_ HW_ hHeld ?_)
     refine aU ?_
     refine BZ (i:=9) (N:=none) (bm 10 1023) rfl rfl (bJ HT_.out (by kernel_rfl)) (by decide) (fun K hK=>?_)
     have hs15:w14.cell? ⟨gb102,1,none⟩=some (.int .i64 x103001_1):=aW BK102 1
     have hfs15:=aA BK102.out 1
     have hns15_0:=NB101_102.out
     have hms15_0:=NB102_101.out
     refine kY (w1:=?_) (by rfl) rfl ?_ ?_
     rotate_left
     ·go_simp
      rfl
     refine hK.out _ _ ?_
     clear hK K
     refine eN (cK HT_.out (by kernel_rfl)) ?_
     try go_wp2
     go_roundg k1
     case measure=>have:=HK1.out;omega
     case rel=>exact ⟨(wrap64 (x4_1+1)),(wrap64 (x103000_1+((aC l0 x4_1).f0))),(wrap64 (x103001_1+((aC l0 x4_1).f1))),aH,H',⟨by have:=HK1.out;omega⟩,⟨jR BK101⟩,⟨jR BK102⟩,⟨aX HB⟩⟩
    ·replace c8:=Bool.eq_false_iff.mpr c8
     subst c8
     rw [if_neg (show ¬ (false=true) by decide)] at H
     simp only [Option.some.injEq,Prod.mk.injEq] at H
     obtain ⟨rfl,rfl⟩:=H
     go_wp2_with (first|(go_at_call 23;(with_reducible refine (cB k1 _ _ l0 false _ ?side1 ?side2 A7.out).mono ?_);(case side1=>exact kJ (Kd.C_below HR0.out HB.out));(case side2=>exact HC0.out);rintro e w16 ⟨rfl,hb⟩;replace BK101:=aE (bB BK101 hb);replace BK102:=aE (bB BK102 hb);replace HB:=aE (aD (aX HB) hb);(try clear hb);have hnb17:=NB102_101.out;have hnc17:=NB101_102.out;have hcz18_0:=aW BK102 0;have hcz18_1:=aW BK102 1;have hfz18_0:=aA BK102.out 0;have hfz18_1:=aA BK102.out 1;have hcz19_0:=aW BK101 0;have hcz19_1:=aW BK101 1;have hfz19_0:=aA BK101.out 0;have hfz19_1:=aA BK101.out 1))
     refine bodyPost_ret (results_cell_row rfl _ _ gb101 28 #[.int .i64 x103000_1,.int .i64 x103001_1] (0,0) _ rfl (jR BK101) Tryz.underlying28 rfl (by kernel_rfl)) rfl ?_
     exact ⟨bP,aX HB⟩
   ·simp only [Option.some.injEq,Prod.mk.injEq] at H
    obtain ⟨rfl,rfl⟩:=H
    have hnb20:=NB102_101.out
    have hnc20:=NB101_102.out
    have hcz21_0:=aW BK102 0
    have hcz21_1:=aW BK102 1
    have hfz21_0:=aA BK102.out 0
    have hfz21_1:=aA BK102.out 1
    have hcz22_0:=aW BK101 0
    have hcz22_1:=aW BK101 1
    have hfz22_0:=aA BK101.out 0
    have hfz22_1:=aA BK101.out 1
    go_wp2
    refine bodyPost_ret (results_cell_row rfl _ _ gb101 28 #[.int .i64 x103000_1,.int .i64 x103001_1] (0,0) _ rfl (jR BK101) Tryz.underlying28 rfl (by kernel_rfl)) rfl ?_
    exact ⟨bP,aX HB⟩
/-! ### spec_HullArea: function 24 -/
def fA:Nat→List (cF)→List Int→Int→Int→Option (Int)
 | 0,_,_,_,_=>none
 | k+1,x0,x5,x6,x7=>if x7<(x5.length:Int) then (if 0≤x7 then (if 0≤(rd x5 x7) then (if (rd x5 x7)<(x0.length:Int) then (if (x5.length:Int)=0 then (none) else (if 0≤(Int.tmod (wrap64 (x7+1)) (x5.length:Int)) then (if (Int.tmod (wrap64 (x7+1)) (x5.length:Int))<(x5.length:Int) then (if 0≤(rd x5 (Int.tmod (wrap64 (x7+1)) (x5.length:Int))) then (if (rd x5 (Int.tmod (wrap64 (x7+1)) (x5.length:Int)))<(x0.length:Int) then (fA k x0 x5 (wrap64 ((wrap64 (x6+(wrap64 (((aC x0 (rd x5 x7)).f0)*((aC x0 (rd x5 (Int.tmod (wrap64 (x7+1)) (x5.length:Int)))).f1)))))-(wrap64 (((aC x0 (rd x5 x7)).f1)*((aC x0 (rd x5 (Int.tmod (wrap64 (x7+1)) (x5.length:Int)))).f0))))) (wrap64 (x7+1))) else (none)) else (none)) else (none)) else (none))) else (none)) else (none)) else (none)) else (some x6)
def spec_HullArea.f (k:Nat) (l0:List (cF)):Option (Int):=(spec_SignsOf.f k l0).bind fun bt101=>(if bt101.2.2=true then ((spec_HullOf.f k bt101.1 bt101.2.1).bind fun t105=>(fA k l0 t105 0 0)) else (some (-1)))
set_option maxHeartbeats 8000000 in
set_option maxRecDepth 100000 in
theorem pD (k:Nat) (A0:Option Addr) (c0:Nat) (l0:List (cF)) (r:Int) (w:World) (hr0:Kd.C jW w A0 l0.length l0) (hc0:l0.length≤c0) (h:spec_HullArea.f k l0=some r) :
  Calls Tryz.prog 24 #[.slice A0 l0.length c0] w fun e w'=>e=.returned (.int .i64 r)∧Below w.heap.size w w':=by
 have hu41:=Tryz.underlying41
 have hu28:=Tryz.underlying28
 have HR0:=aE hr0
 have HC0:=aE hc0
 clear hr0 hc0
 have HB:=aE (Below.refl w.heap.size w)
 unfold spec_HullArea.f at h
 have H:=h
 clear h
 replace H:=eM H
 obtain ⟨⟨t101,t102,t103⟩,A2,H⟩:=H
 try dsimp only at H
 by_cases c3:t103=true
 ·subst c3
  rw [if_pos rfl] at H
  replace H:=eM H
  obtain ⟨t105,A4,H⟩:=H
  have H':=aE H
  clear H
  go_enter Tryz.func24,Tryz.ntmps24
  go_wp2_with (first|((with_reducible refine aJ (f:=25) rfl ?_);refine aV (some 12) Tryz.func25 #[.slice A0 l0.length c0] ?_;(with_reducible refine (kV k _ _ l0 t101 t102 true _ ?side1 ?side2 A2.out).mono ?_);(case side1=>exact kJ HR0.out);(case side2=>exact HC0.out);rintro e w5 ⟨rfl,hb⟩;refine ⟨_,rfl,?_⟩;replace HB:=aE (aD (aX HB) hb);(try clear hb);(try clear hk))|((with_reducible refine aN (N:=3) rfl ?_);refine bV (N:=3) #[.int .i64 0,.string (⟨#[]⟩:ByteArray)] 41 ?_;intro gb104 hg w6 hbox hb;have BK104:=aE (hbox);have GW104:=aE ((dX HB hg));have GE104:=aE ((dX HB hg));replace HB:=aE (aD (aX HB) hb);clear hb hbox hg;have hcz7_0:=aW BK104 0;have hcz7_1:=aW BK104 1;have hfz7_0:=aA BK104.out 0;have hfz7_1:=aA BK104.out 1)|((with_reducible refine aJ (f:=54) rfl ?_);refine aV (some 18) Tryz.func54 #[.agg #[.int .i64 t101,.string t102]] ?_;(with_reducible refine (rJ k t101 t102 t105 _ A4.out).mono ?_);rintro e w8 ⟨v106,rfl,ho0,hb⟩;refine ⟨_,rfl,?_⟩;have HO107:=aE (Kd.R_lower ho0 (aT (aX HB)));replace BK104:=aE (aZ (g:=gb104) (o:=.cells #[.int .i64 t101,.string t102] 41 (0,0)) (jR BK104) hb);replace HB:=aE (aD (aX HB) hb);(try clear hb);(try clear hk);(try clear ho0)))
  go_loopg [6,7] k (fun kq v6 v7 w'=>∃ (x6_1:Int) (x7_1:Int),v6=.int .i64 x6_1∧v7=.int .i64 x7_1∧Aside0 (fA kq l0 t105 x6_1 x7_1=some r)∧Aside0 (kq≤k)∧Aside0 (Kd.R (Kd.int .i64) 3 w' w.heap.size (fun _=>True) v106 t105)∧Aside0 (w'.heap[gb104]? = some (.cells #[.int .i64 t101,.string t102] 41 (0,0)))∧Aside0 (Below w.heap.size w w'))
  case atStart=>exact ⟨(0),(0),aH,aH,H',⟨Nat.le_refl _⟩,⟨bN HO107⟩,⟨fO BK104⟩,⟨aX HB⟩⟩
  case round =>
   clear H'
   try clear c3
   try clear hcz7_0
   try clear hcz7_1
   try clear hfz7_0
   try clear hfz7_1
   obtain ⟨x6_1,x7_1,rfl,rfl,HA,HK1,HO_5,BK104,HB⟩:=hrel
   cases gk with
   | zero=>exact absurd HA.out (by simp [fA])
   | succ k1 =>
    have H:=HA.out
    clear HA
    simp only [fA] at H
    rcases eV H with ⟨c9b0,H⟩|⟨c9b0,H⟩
    ·obtain ⟨c10b0,H⟩:=cV H
     obtain ⟨c11b0,H⟩:=cV H
     obtain ⟨c12b0,H⟩:=cV H
     obtain ⟨c13,H⟩:=JQ H
     have c13b0:((t105.length:Int)==0)=false:=beq_eq_false_iff_ne.mpr c13
     have c13b1:((t105.length:Int) != 0)=true:=bne_iff_ne.mpr c13
     have c13b2:¬ (t105=[]):=fun h_=>c13 (by rw [h_];rfl)
     obtain ⟨ji14,hji14⟩:∃ j_:Int,(Int.tmod (wrap64 (x7_1+1)) (t105.length:Int))=j_:=⟨_,rfl⟩
     replace H:(if 0≤(ji14) then (if (ji14)<(t105.length:Int) then (if 0≤(rd t105 (ji14)) then (if (rd t105 (ji14))<(l0.length:Int) then (fA k1 l0 t105 (wrap64 ((wrap64 (x6_1+(wrap64 (((aC l0 (rd t105 x7_1)).f0)*((aC l0 (rd t105 (ji14))).f1)))))-(wrap64 (((aC l0 (rd t105 x7_1)).f1)*((aC l0 (rd t105 (ji14))).f0))))) (wrap64 (x7_1+1))) else (none)) else (none)) else (none)) else (none))=some r:=by first|(rw [hji14] at H;exact H)|(simp only [hji14] at H ⊢;exact H)
     obtain ⟨c15b0,H⟩:=cV H
     obtain ⟨c16b0,H⟩:=cV H
     obtain ⟨c17b0,H⟩:=cV H
     obtain ⟨c18b0,H⟩:=cV H
     have H':=aE H
     clear H
     obtain ⟨Ao19,co19,eo19⟩:=Kd.R_slice HO_5.out
     subst eo19
     obtain ⟨p108,q108,ad108,e108,hx108_0⟩:=jP (Kd.at_int (Kd.R_reads' HO_5.out).2.2 x7_1)
     cases e108
     have p109:0≤((rd t105 x7_1):Int):=bI
     have q109:(rd t105 x7_1)<(l0.length:Int):=bI
     obtain ⟨ad109,e109,hx109_0,hx109_1⟩:=bW HR0.out (rd t105 x7_1) p109 q109
     cases e109
     replace hx109_0:=aY HB hx109_0
     replace hx109_1:=aY HB hx109_1
     replace p109:=eq_true p109
     replace q109:=eq_true q109
     go_wp2_with (first|((with_reducible refine aN (N:=8) rfl ?_);refine bV (N:=8) #[.int .i64 0,.int .i64 0] 28 ?_;intro gb110 hg w20 hbox hb;replace HO_5:=aE (Kd.R_below (bN HO_5) hb);have BK110:=aE (hbox);have GW110:=aE ((dX HB hg));have GE110:=aE ((dX HB hg));replace HB:=aE (aD (aX HB) hb);have NB104_110:=aE ((iX BK104 hg));have NB110_104:=aE ((iY BK104 hg));replace BK104:=aE (bB BK104 hb);clear hb hbox hg;have hnb21:=NB110_104.out;have hnc21:=NB104_110.out;have hcz22_0:=aW BK110 0;have hcz22_1:=aW BK110 1;have hfz22_0:=aA BK110.out 0;have hfz22_1:=aA BK110.out 1;have p111:0≤((ji14):Int):=bI;have q111:(ji14)<(t105.length:Int):=bI;obtain ⟨ad111,e111,hx111_0⟩:=Kd.at_int (Kd.R_reads' HO_5.out).2.2 (ji14) p111 q111;obtain rfl:ad108=ad111:=(by injection e111);have hn111_0:ad108.block≠gb110:=Kd.own_blk (Kd.R_ne HO_5.out BK110.out (by decide));have hn111_1:ad108.block≠gb110:=Kd.own_blk (Kd.R_ne HO_5.out BK110.out (by decide));replace hx111_0:=(kN (p:=⟨gb110,0,none⟩) (by first|(rw [dV];exact hn111_0)|(show (Addr.add _ _).block≠_;rw [dV];exact hn111_0)|exact hn111_0) (.int .i64 ((aC l0 (rd t105 x7_1)).f0))).trans hx111_0;replace hx111_0:=(kN (p:=⟨gb110,1,none⟩) (by first|(rw [dV];exact hn111_1)|(show (Addr.add _ _).block≠_;rw [dV];exact hn111_1)|exact hn111_1) (.int .i64 ((aC l0 (rd t105 x7_1)).f1))).trans hx111_0;clear hn111_0;clear hn111_1;replace p111:=eq_true p111;replace q111:=eq_true q111;have p112:0≤((rd t105 (ji14)):Int):=bI;have q112:(rd t105 (ji14))<(l0.length:Int):=bI;obtain ⟨ad112,e112,hx112_0,hx112_1⟩:=bW HR0.out (rd t105 (ji14)) p112 q112;obtain rfl:ad109=ad112:=(by injection e112);have hn112_0:ad109.block≠gb110:=Nat.ne_of_lt (Nat.lt_of_lt_of_le (by have:=World.block_lt_of_cell? _ _ hx112_0;first|rwa [dV] at this|exact this) GW110.out);have hn112_1:ad109.block≠gb110:=Nat.ne_of_lt (Nat.lt_of_lt_of_le (by have:=World.block_lt_of_cell? _ _ hx112_0;first|rwa [dV] at this|exact this) GW110.out);replace hx112_0:=(HB.out.cell (World.block_lt_of_cell? w _ hx112_0)).trans hx112_0;replace hx112_1:=(HB.out.cell (World.block_lt_of_cell? w _ hx112_1)).trans hx112_1;replace hx112_0:=(kN (p:=⟨gb110,0,none⟩) (by first|(rw [dV];exact hn112_0)|(show (Addr.add _ _).block≠_;rw [dV];exact hn112_0)|exact hn112_0) (.int .i64 ((aC l0 (rd t105 x7_1)).f0))).trans hx112_0;replace hx112_1:=(kN (p:=⟨gb110,0,none⟩) (by first|(rw [dV];exact hn112_0)|(show (Addr.add _ _).block≠_;rw [dV];exact hn112_0)|exact hn112_0) (.int .i64 ((aC l0 (rd t105 x7_1)).f0))).trans hx112_1;replace hx112_0:=(kN (p:=⟨gb110,1,none⟩) (by first|(rw [dV];exact hn112_1)|(show (Addr.add _ _).block≠_;rw [dV];exact hn112_1)|exact hn112_1) (.int .i64 ((aC l0 (rd t105 x7_1)).f1))).trans hx112_0;replace hx112_1:=(kN (p:=⟨gb110,1,none⟩) (by first|(rw [dV];exact hn112_1)|(show (Addr.add _ _).block≠_;rw [dV];exact hn112_1)|exact hn112_1) (.int .i64 ((aC l0 (rd t105 x7_1)).f1))).trans hx112_1;clear hn112_0;clear hn112_1;replace p112:=eq_true p112;replace q112:=eq_true q112)|((with_reducible refine aN (N:=9) rfl ?_);refine bV (N:=9) #[.int .i64 0,.int .i64 0] 28 ?_;intro gb113 hg w23 hbox hb;replace HO_5:=aE (Kd.R_below (by (with_reducible repeat (first|apply kD|apply kE|apply gU));exact (Kd.R_mono (Kd.R_far (p:=⟨gb110,1,none⟩) (Kd.R_far (p:=⟨gb110,0,none⟩) (Kd.R_types HO_5.out BK110.out (by decide)) (fun _ hk=>hk.2) (.int .i64 ((aC l0 (rd t105 x7_1)).f0))) (fun _ hk=>hk.2) (.int .i64 ((aC l0 (rd t105 x7_1)).f1))) (fun _ h_=>h_.1))) hb);have BK113:=aE (hbox);have GW113:=aE ((dX HB hg));have GE113:=aE ((dX HB hg));replace HB:=aE (aD (aX HB) hb);have NB104_113:=aE ((by rw [hg];exact Nat.ne_of_lt (gB (g:=gb104) (o:=.cells #[.int .i64 t101,.string t102] 41 (0,0)) (jR BK104)):gb104≠gb113));have NB113_104:=aE ((by rw [hg];exact Nat.ne_of_gt (gB (g:=gb104) (o:=.cells #[.int .i64 t101,.string t102] 41 (0,0)) (jR BK104)):gb113≠gb104));replace BK104:=aE (aZ (g:=gb104) (o:=.cells #[.int .i64 t101,.string t102] 41 (0,0)) (jR BK104) hb);have NB110_113:=aE ((by rw [hg];exact Nat.ne_of_lt (gB (g:=gb110) (o:=.cells #[.int .i64 ((aC l0 (rd t105 x7_1)).f0),.int .i64 ((aC l0 (rd t105 x7_1)).f1)] 28 (0,0)) (jR BK110)):gb110≠gb113));have NB113_110:=aE ((by rw [hg];exact Nat.ne_of_gt (gB (g:=gb110) (o:=.cells #[.int .i64 ((aC l0 (rd t105 x7_1)).f0),.int .i64 ((aC l0 (rd t105 x7_1)).f1)] 28 (0,0)) (jR BK110)):gb113≠gb110));replace BK110:=aE (aZ (g:=gb110) (o:=.cells #[.int .i64 ((aC l0 (rd t105 x7_1)).f0),.int .i64 ((aC l0 (rd t105 x7_1)).f1)] 28 (0,0)) (jR BK110) hb);clear hb hbox hg;have hnb24:=NB113_104.out;have hnc24:=NB104_113.out;have hnb25:=NB113_110.out;have hnc25:=NB110_113.out;have hcz26_0:=aW BK113 0;have hcz26_1:=aW BK113 1;have hfz26_0:=aA BK113.out 0;have hfz26_1:=aA BK113.out 1;have hcz27_0:=aW BK110 0;have hcz27_1:=aW BK110 1;have hfz27_0:=aA BK110.out 0;have hfz27_1:=aA BK110.out 1))
     go_roundg k1
     case measure=>have:=HK1.out;omega
     case rel=>exact ⟨(wrap64 ((wrap64 (x6_1+(wrap64 (((aC l0 (rd t105 x7_1)).f0)*((aC l0 (rd t105 (ji14))).f1)))))-(wrap64 (((aC l0 (rd t105 x7_1)).f1)*((aC l0 (rd t105 (ji14))).f0))))),(wrap64 (x7_1+1)),(by first|rfl|(simp;done)|(simp only [← hji14] <;> (first|rfl|simp))|(simp [*];done)),aH,H',⟨by have:=HK1.out;omega⟩,⟨by (with_reducible repeat (first|apply kD|apply kE|apply gU));exact Kd.R_mono (Kd.R_far (p:=⟨gb113,1,none⟩) (Kd.R_far (p:=⟨gb113,0,none⟩) (Kd.R_types HO_5.out BK113.out (by decide)) (fun _ hk=>hk.2) (.int .i64 ((aC l0 (rd t105 (ji14))).f0))) (fun _ hk=>hk.2) (.int .i64 ((aC l0 (rd t105 (ji14))).f1))) (fun _ hk=>trivial)⟩,⟨jR BK104⟩,⟨aX HB⟩⟩
    ·obtain rfl:=Option.some.inj H
     obtain ⟨Ao28,co28,eo28⟩:=Kd.R_slice HO_5.out
     subst eo28
     go_wp2
     go_ret
     exact ⟨bP,aX HB⟩
 ·replace c3:=Bool.eq_false_iff.mpr c3
  subst c3
  rw [if_neg (show ¬ (false=true) by decide)] at H
  obtain rfl:=Option.some.inj H
  go_enter Tryz.func24,Tryz.ntmps24
  go_wp2_with (first|((with_reducible refine aJ (f:=25) rfl ?_);refine aV (some 12) Tryz.func25 #[.slice A0 l0.length c0] ?_;(with_reducible refine (kV k _ _ l0 t101 t102 false _ ?side1 ?side2 A2.out).mono ?_);(case side1=>exact kJ HR0.out);(case side2=>exact HC0.out);rintro e w29 ⟨rfl,hb⟩;refine ⟨_,rfl,?_⟩;replace HB:=aE (aD (aX HB) hb);(try clear hb);(try clear hk))|((with_reducible refine aN (N:=3) rfl ?_);refine bV (N:=3) #[.int .i64 0,.string (⟨#[]⟩:ByteArray)] 41 ?_;intro gb104 hg w30 hbox hb;have BK104:=aE (hbox);have GW104:=aE ((dX HB hg));have GE104:=aE ((dX HB hg));replace HB:=aE (aD (aX HB) hb);clear hb hbox hg;have hcz31_0:=aW BK104 0;have hcz31_1:=aW BK104 1;have hfz31_0:=aA BK104.out 0;have hfz31_1:=aA BK104.out 1))
  go_ret
  exact ⟨bP,aX HB⟩
/-! ### spec_IsExtreme: function 26 -/
def spec_IsExtreme.f (k:Nat) (a0_0:Int) (a0_1:ByteArray) (a1:Int):Option (Bool):=(spec_IsAcyclic.f k a0_0 a0_1).bind fun t102=>(if t102=true then ((spec_l1In.f a1 0 (wrap64 (a0_0-1))).bind fun t103=>(if t103=true then (if 0≤(IntKind.u64.wrap (a0_0)) then ((spec_l6In.f k a0_0 a0_1 (wrap64 ((kS .i64 1 (IntKind.u64.wrap (a0_0)))-1)) a1).bind fun t104=>(some (!t104))) else (none)) else (some false))) else (some false))
set_option maxHeartbeats 8000000 in
set_option maxRecDepth 100000 in
theorem vN (k:Nat) (a0_0:Int) (a0_1:ByteArray) (a1:Int) (r:Bool) (w:World) (h:spec_IsExtreme.f k a0_0 a0_1 a1=some r) :
  Calls Tryz.prog 26 #[.agg #[.int .i64 a0_0,.string a0_1],.int .i64 a1] w fun e w'=>e=.returned (.bool r)∧Below w.heap.size w w':=by
 have hu41:=Tryz.underlying41
 have HB:=aE (Below.refl w.heap.size w)
 unfold spec_IsExtreme.f at h
 have H:=h
 clear h
 replace H:=eM H
 obtain ⟨t102,A3,H⟩:=H
 by_cases c4:t102=true
 ·subst c4
  rw [if_pos rfl] at H
  replace H:=eM H
  obtain ⟨t103,A5,H⟩:=H
  by_cases c6:t103=true
  ·subst c6
   rw [if_pos rfl] at H
   obtain ⟨ji7,hji7⟩:∃ j_:Int,(IntKind.u64.wrap (a0_0))=j_:=⟨_,rfl⟩
   replace H:(if 0≤(ji7) then ((spec_l6In.f k a0_0 a0_1 (wrap64 ((kS .i64 1 (ji7))-1)) a1).bind fun t104=>(some (!t104))) else (none))=some r:=by first|(rw [hji7] at H;exact H)|(simp only [hji7] at H ⊢;exact H)
   (try rw [hji7] at A3)
   (try rw [hji7] at A5)
   obtain ⟨c8,H⟩:=gQ H
   have c8b0:=eq_true c8
   have c8b1:=decide_eq_true c8
   clear c8
   obtain ⟨ji9,hji9⟩:∃ j_:Int,(kS .i64 1 (ji7))=j_:=⟨_,rfl⟩
   replace H:((spec_l6In.f k a0_0 a0_1 (wrap64 ((ji9)-1)) a1).bind fun t104=>(some (!t104)))=some r:=by first|(rw [hji9] at H;exact H)|(simp only [hji9] at H ⊢;exact H)
   (try rw [hji9] at A3)
   (try rw [hji9] at A5)
   have hji9_:(IntKind.i64.wrap (1*2 ^ min (ji7).toNat 64))=ji9:=hji9
   have hji9z:(ji7)≤64→(IntKind.i64.wrap (1*2 ^ (ji7).toNat))=ji9:=jC hji9
   have hji9u:(IntKind.i64.wrap (2 ^ min (ji7).toNat 64))=ji9:=by have h_:=hji9_;rw [Int.one_mul] at h_;exact h_
   have hji9v:(ji7)≤64→(IntKind.i64.wrap (2 ^ (ji7).toNat))=ji9:=fun hle_=>by have h_:=hji9z hle_;rw [Int.one_mul] at h_;exact h_
   have hji9y:(wrap64 (1*2 ^ min (ji7).toNat 64))=ji9:=(cC _).symm.trans hji9_
   have hji9x:(ji7)≤64→(wrap64 (1*2 ^ (ji7).toNat))=ji9:=fun h_=>(cC _).symm.trans (hji9z h_)
   replace H:=eM H
   obtain ⟨t104,A10,H⟩:=H
   obtain rfl:=Option.some.inj H
   go_enter Tryz.func26,Tryz.ntmps26
   go_wp2_with (first|((with_reducible refine aN (N:=2) rfl ?_);refine bV (N:=2) #[.int .i64 a0_0,.string a0_1] 41 ?_;intro gb101 hg w11 hbox hb;have BK101:=aE (hbox);have GW101:=aE ((dX HB hg));have GE101:=aE ((dX HB hg));replace HB:=aE (aD (aX HB) hb);clear hb hbox hg;have hcz12_0:=aW BK101 0;have hcz12_1:=aW BK101 1;have hfz12_0:=aA BK101.out 0;have hfz12_1:=aA BK101.out 1)|((with_reducible refine aJ (f:=56) rfl ?_);refine aV (some 6) Tryz.func56 #[.agg #[.int .i64 a0_0,.string a0_1]] ?_;(with_reducible refine (gE k a0_0 a0_1 true _ A3.out).mono ?_);rintro e w13 ⟨rfl,hb⟩;refine ⟨_,rfl,?_⟩;replace BK101:=aE (bB BK101 hb);replace HB:=aE (aD (aX HB) hb);(try clear hb);have hcz14_0:=aW BK101 0;have hcz14_1:=aW BK101 1;have hfz14_0:=aA BK101.out 0;have hfz14_1:=aA BK101.out 1)|(go_at_call 52;(with_reducible refine (iN a1 0 (wrap64 (a0_0-1)) true _ A5.out).mono ?_);rintro e w' ⟨rfl,⟨nd,rfl⟩⟩)|(go_at_call 57;(with_reducible refine (oJ k a0_0 a0_1 (wrap64 ((ji9)-1)) a1 t104 _ A10.out).mono ?_);rintro e w15 ⟨rfl,hb⟩;replace BK101:=aE (bB BK101 hb);replace HB:=aE (aD (aX HB) hb);(try clear hb)))
   go_ret
   exact ⟨by first|rfl|(simp [cG,cI] <;> rfl)|(simp only [← hji7,← hji9];first|rfl|(simp [cG,cI] <;> rfl))|(simp [*,cG,cI] <;> rfl),aX HB⟩
  ·replace c6:=Bool.eq_false_iff.mpr c6
   subst c6
   rw [if_neg (show ¬ (false=true) by decide)] at H
   obtain rfl:=Option.some.inj H
   go_enter Tryz.func26,Tryz.ntmps26
   go_wp2_with (first|((with_reducible refine aN (N:=2) rfl ?_);refine bV (N:=2) #[.int .i64 a0_0,.string a0_1] 41 ?_;intro gb101 hg w16 hbox hb;have BK101:=aE (hbox);have GW101:=aE ((dX HB hg));have GE101:=aE ((dX HB hg));replace HB:=aE (aD (aX HB) hb);clear hb hbox hg;have hcz17_0:=aW BK101 0;have hcz17_1:=aW BK101 1;have hfz17_0:=aA BK101.out 0;have hfz17_1:=aA BK101.out 1)|((with_reducible refine aJ (f:=56) rfl ?_);refine aV (some 6) Tryz.func56 #[.agg #[.int .i64 a0_0,.string a0_1]] ?_;(with_reducible refine (gE k a0_0 a0_1 true _ A3.out).mono ?_);rintro e w18 ⟨rfl,hb⟩;refine ⟨_,rfl,?_⟩;replace BK101:=aE (bB BK101 hb);replace HB:=aE (aD (aX HB) hb);(try clear hb);have hcz19_0:=aW BK101 0;have hcz19_1:=aW BK101 1;have hfz19_0:=aA BK101.out 0;have hfz19_1:=aA BK101.out 1)|(go_at_call 52;(with_reducible refine (iN a1 0 (wrap64 (a0_0-1)) false _ A5.out).mono ?_);rintro e w' ⟨rfl,⟨nd,rfl⟩⟩))
   go_ret
   exact ⟨bP,aX HB⟩
 ·replace c4:=Bool.eq_false_iff.mpr c4
  subst c4
  rw [if_neg (show ¬ (false=true) by decide)] at H
  obtain rfl:=Option.some.inj H
  go_enter Tryz.func26,Tryz.ntmps26
  go_wp2_with (first|((with_reducible refine aN (N:=2) rfl ?_);refine bV (N:=2) #[.int .i64 a0_0,.string a0_1] 41 ?_;intro gb101 hg w20 hbox hb;have BK101:=aE (hbox);have GW101:=aE ((dX HB hg));have GE101:=aE ((dX HB hg));replace HB:=aE (aD (aX HB) hb);clear hb hbox hg;have hcz21_0:=aW BK101 0;have hcz21_1:=aW BK101 1;have hfz21_0:=aA BK101.out 0;have hfz21_1:=aA BK101.out 1)|((with_reducible refine aJ (f:=56) rfl ?_);refine aV (some 6) Tryz.func56 #[.agg #[.int .i64 a0_0,.string a0_1]] ?_;(with_reducible refine (gE k a0_0 a0_1 false _ A3.out).mono ?_);rintro e w22 ⟨rfl,hb⟩;refine ⟨_,rfl,?_⟩;replace BK101:=aE (bB BK101 hb);replace HB:=aE (aD (aX HB) hb);(try clear hb)))
  go_ret
  exact ⟨bP,aX HB⟩
/-! ### spec_l6List: function 58 -/
def iK:Nat→Int→List Int→Int→Option (List Int)
 | 0,_,_,_=>none
 | k+1,x0,x3,x4=>if x4<7 then ((spec_l6Has.f x0 x4).bind fun t104=>(if t104=true then (if x3.length<17592186044416 then (iK k x0 (x3++[x4]) (wrap64 (x4+1))) else (none)) else (iK k x0 x3 (wrap64 (x4+1))))) else (some x3)
def spec_l6List.f (k:Nat) (a0:Int):Option (List Int):=iK k a0 (([]:List Int)) 0
theorem qO:∀ k,(∀ y0 y1 y2,LeO (iK k y0 y1 y2) (iK (k+1) y0 y1 y2))
 | 0=>fun _ _ _ r h=>by simp [iK] at h
 | k+1=>by
  have ih0:=qO k
  (intros;unfold iK;repeat' (with_reducible first|exact ih0 _ _ _|exact LeO.refl _|exact LeO.none _|refine jA ?_ ?_|refine LeO.bind ?_ (fun _=>?_)))
theorem spec_l6List.mono:∀ a0 k,LeO (spec_l6List.f k a0) (spec_l6List.f (k+1) a0):=by
 intro a0 k
 have ih0:=qO k
 unfold spec_l6List.f
 repeat' (with_reducible first|exact ih0 _ _ _|exact LeO.refl _|exact LeO.none _|refine jA ?_ ?_|refine LeO.bind ?_ (fun _=>?_))
set_option maxHeartbeats 8000000 in
set_option maxRecDepth 100000 in
theorem zL (k:Nat) (a0:Int) (r:List Int) (w:World) (h:spec_l6List.f k a0=some r) :
  Calls Tryz.prog 58 #[.int .i64 a0] w fun e w'=>∃ v0_:Value,e=.returned (v0_)∧Kd.R (Kd.int .i64) 3 w' w.heap.size (fun _=>True) v0_ r∧Below w.heap.size w w':=by
 have HB:=aE (Below.refl w.heap.size w)
 unfold spec_l6List.f at h
 have H:=h
 clear h
 obtain ⟨y101,hy101⟩:∃ y_:List Int,y_=(([]:List Int)):=⟨_,rfl⟩
 first|(with_reducible replace H:=oO hy101 H)|(with_reducible replace H:=oP hy101 H)|rw [← hy101] at H
 have Ny101:=aE hy101
 clear hy101
 have H':=aE H
 clear H
 go_enter Tryz.func58,Tryz.ntmps58
 go_wp2_with (first|((with_reducible refine aN (N:=5) rfl ?_);refine Kd.R_lit (Kd.int .i64) _ 3 ?hg (N:=5) ?hd (xs:=([]:List Int)) (inner:=[]) (ok:=fun _=>True) (okp:=fun _=>True) ?hr ?hp (fun _ hk=>hk) trivial (Below.refl _ _) (Nat.le_refl _) (by simp) ?_;(case hd=>rfl);(case hg=>rfl);(case hr=>first|(go_simp;done)|(go_simp;rfl));(case hp=>exact (kC.none _ _));intro v102 w2 ho3 hb hg_ hnew_;clear hg_ hnew_;(first|rw [← Ny101.out] at ho3|(simp only [Int.reduceToNat] at ho3;rw [← Ny101.out] at ho3));have HO103:=aE (Kd.R_lower ho3 (aT (aX HB)));replace HB:=aE (aD (aX HB) hb);clear hb ho3))
 go_loopg [3,4] k (fun kq v3 v4 w'=>∃ (x3_1:List Int) (x4_1:Int),v4=.int .i64 x4_1∧Aside0 (iK kq a0 x3_1 x4_1=some r)∧Aside0 (kq≤k)∧Aside0 (Kd.R (Kd.int .i64) 3 w' w.heap.size (fun _=>True) v3 x3_1)∧Aside0 (Below w.heap.size w w'))
 case atStart=>exact ⟨(y101),(0),aH,H',⟨Nat.le_refl _⟩,⟨bN HO103⟩,⟨aX HB⟩⟩
 case round =>
  clear H'
  obtain ⟨x3_1,x4_1,rfl,HA,HK1,HO_3,HB⟩:=hrel
  cases gk with
  | zero=>exact absurd HA.out (by simp [iK])
  | succ k1 =>
   have H:=HA.out
   clear HA
   simp only [iK] at H
   rcases eV H with ⟨c4b0,H⟩|⟨c4b0,H⟩
   ·replace H:=DB H
    obtain ⟨t104,A50,H⟩:=H
    have A5:=aE A50
    clear A50
    by_cases c6:t104=true
    ·subst c6
     rw [if_pos rfl] at H
     obtain ⟨c7,H⟩:=gQ H
     have LMc7:=aE c7
     clear c7
     obtain ⟨y105,hy105⟩:∃ y_:List Int,y_=(x3_1++[x4_1]):=⟨_,rfl⟩
     first|(with_reducible replace H:=oO hy105 H)|(with_reducible replace H:=oP hy105 H)|rw [← hy105] at H
     have Ny105:=aE hy105
     clear hy105
     have H':=aE H
     clear H
     go_wp2_with (first|((with_reducible refine aJ (f:=75) rfl ?_);refine aV (some 12) Tryz.func75 #[.int .i64 a0,.int .i64 x4_1] ?_;(with_reducible refine (bM a0 x4_1 true _ A5.out).mono ?_);rintro e w' ⟨rfl,⟨nd,rfl⟩⟩;refine ⟨_,rfl,?_⟩)|((with_reducible refine cT (b:=.append) (xs:=#[.tmp 13,.tmp 15]) rfl ?_);at_builtin;refine Kd.R_append (Kd.int .i64) (w0:=w) w.heap.size rfl (.tmp 13) (.tmp 15) 33 3 (.int .i64 0) 8 rfl Tryz.underlying33 mO rfl (by decide) (by omega) u3 x3_1 x4_1 [.int .i64 x4_1] (fun _=>True) (fun _=>False) rfl rfl ?aP (fun _ hk=>hk.elim) ?aF ?aO ?aB ?aS ?aL ?_;(case aP=>exact rfl);(case aB=>exact (aX HB));(case aF=>exact (fun _ _=>trivial));(case aO=>exact (bN HO_3));(case aS=>exact (aT (aX HB)));(case aL=>have:=LMc7.out;omega);intro v106 w8 ho hb hg hat;rw [← Ny105.out] at ho;replace HB:=aE (hb);have HO107:=aE (ho);clear HO_3;clear ho hb hg hat))
     go_roundg k1
     case measure=>have:=HK1.out;omega
     case rel=>exact ⟨(y105),(wrap64 (x4_1+1)),aH,H',⟨by have:=HK1.out;omega⟩,⟨bN HO107⟩,⟨aX HB⟩⟩
    ·replace c6:=Bool.eq_false_iff.mpr c6
     subst c6
     rw [if_neg (show ¬ (false=true) by decide)] at H
     have H':=aE H
     clear H
     go_wp2_with (first|((with_reducible refine aJ (f:=75) rfl ?_);refine aV (some 12) Tryz.func75 #[.int .i64 a0,.int .i64 x4_1] ?_;(with_reducible refine (bM a0 x4_1 false _ A5.out).mono ?_);rintro e w' ⟨rfl,⟨nd,rfl⟩⟩;refine ⟨_,rfl,?_⟩))
     go_roundg k1
     case measure=>have:=HK1.out;omega
     case rel=>exact ⟨(x3_1),(wrap64 (x4_1+1)),aH,H',⟨by have:=HK1.out;omega⟩,⟨bN HO_3⟩,⟨aX HB⟩⟩
   ·obtain rfl:=Option.some.inj H
    go_wp2
    go_ret
    exact ⟨_,bP,bN HO_3,aX HB⟩
/-! ### spec_HullSize: function 27 -/
def spec_HullSize.f (k:Nat) (a0_0:Int) (a0_1:ByteArray):Option (Int):=(spec_IsAcyclic.f k a0_0 a0_1).bind fun t102=>(if t102=true then (if 0≤(IntKind.u64.wrap (a0_0)) then ((spec_l6Extreme.f k a0_0 a0_1 (wrap64 ((kS .i64 1 (IntKind.u64.wrap (a0_0)))-1))).bind fun t103=>((spec_l6List.f k t103).bind fun t104=>(some (t104.length:Int)))) else (none)) else (some (-1)))
set_option maxHeartbeats 8000000 in
set_option maxRecDepth 100000 in
theorem wZ (k:Nat) (a0_0:Int) (a0_1:ByteArray) (r:Int) (w:World) (h:spec_HullSize.f k a0_0 a0_1=some r) :
  Calls Tryz.prog 27 #[.agg #[.int .i64 a0_0,.string a0_1]] w fun e w'=>e=.returned (.int .i64 r)∧Below w.heap.size w w':=by
 have hu41:=Tryz.underlying41
 have HB:=aE (Below.refl w.heap.size w)
 unfold spec_HullSize.f at h
 have H:=h
 clear h
 replace H:=eM H
 obtain ⟨t102,A2,H⟩:=H
 by_cases c3:t102=true
 ·subst c3
  rw [if_pos rfl] at H
  obtain ⟨ji4,hji4⟩:∃ j_:Int,(IntKind.u64.wrap (a0_0))=j_:=⟨_,rfl⟩
  replace H:(if 0≤(ji4) then ((spec_l6Extreme.f k a0_0 a0_1 (wrap64 ((kS .i64 1 (ji4))-1))).bind fun t103=>((spec_l6List.f k t103).bind fun t104=>(some (t104.length:Int)))) else (none))=some r:=by first|(rw [hji4] at H;exact H)|(simp only [hji4] at H ⊢;exact H)
  (try rw [hji4] at A2)
  obtain ⟨c5,H⟩:=gQ H
  have c5b0:=eq_true c5
  have c5b1:=decide_eq_true c5
  clear c5
  obtain ⟨ji6,hji6⟩:∃ j_:Int,(kS .i64 1 (ji4))=j_:=⟨_,rfl⟩
  replace H:((spec_l6Extreme.f k a0_0 a0_1 (wrap64 ((ji6)-1))).bind fun t103=>((spec_l6List.f k t103).bind fun t104=>(some (t104.length:Int))))=some r:=by first|(rw [hji6] at H;exact H)|(simp only [hji6] at H ⊢;exact H)
  (try rw [hji6] at A2)
  have hji6_:(IntKind.i64.wrap (1*2 ^ min (ji4).toNat 64))=ji6:=hji6
  have hji6z:(ji4)≤64→(IntKind.i64.wrap (1*2 ^ (ji4).toNat))=ji6:=jC hji6
  have hji6u:(IntKind.i64.wrap (2 ^ min (ji4).toNat 64))=ji6:=by have h_:=hji6_;rw [Int.one_mul] at h_;exact h_
  have hji6v:(ji4)≤64→(IntKind.i64.wrap (2 ^ (ji4).toNat))=ji6:=fun hle_=>by have h_:=hji6z hle_;rw [Int.one_mul] at h_;exact h_
  have hji6y:(wrap64 (1*2 ^ min (ji4).toNat 64))=ji6:=(cC _).symm.trans hji6_
  have hji6x:(ji4)≤64→(wrap64 (1*2 ^ (ji4).toNat))=ji6:=fun h_=>(cC _).symm.trans (hji6z h_)
  replace H:=eM H
  obtain ⟨t103,A7,H⟩:=H
  replace H:=eM H
  obtain ⟨t104,A8,H⟩:=H
  obtain rfl:=Option.some.inj H
  go_enter Tryz.func27,Tryz.ntmps27
  go_wp2_with (first|((with_reducible refine aN (N:=1) rfl ?_);refine bV (N:=1) #[.int .i64 a0_0,.string a0_1] 41 ?_;intro gb101 hg w9 hbox hb;have BK101:=aE (hbox);have GW101:=aE ((dX HB hg));have GE101:=aE ((dX HB hg));replace HB:=aE (aD (aX HB) hb);clear hb hbox hg;have hcz10_0:=aW BK101 0;have hcz10_1:=aW BK101 1;have hfz10_0:=aA BK101.out 0;have hfz10_1:=aA BK101.out 1)|((with_reducible refine aJ (f:=56) rfl ?_);refine aV (some 4) Tryz.func56 #[.agg #[.int .i64 a0_0,.string a0_1]] ?_;(with_reducible refine (gE k a0_0 a0_1 true _ A2.out).mono ?_);rintro e w11 ⟨rfl,hb⟩;refine ⟨_,rfl,?_⟩;replace BK101:=aE (bB BK101 hb);replace HB:=aE (aD (aX HB) hb);(try clear hb);have hcz12_0:=aW BK101 0;have hcz12_1:=aW BK101 1;have hfz12_0:=aA BK101.out 0;have hfz12_1:=aA BK101.out 1)|((with_reducible refine aJ (f:=59) rfl ?_);refine GH (some 12) rfl rfl Tryz.func59 (by kernel_rfl) rfl #[.agg #[.int .i64 a0_0,.string a0_1],.int .i64 (wrap64 ((ji6)-1))] rfl (by (try simp only [List.map_toArray,List.map_cons,List.map_nil]);first|done|(simp only [hji6];rfl)|rfl|(simp only [List.length_drop,List.length_take];rfl)) ?_;(with_reducible refine (nH k a0_0 a0_1 (wrap64 ((ji6)-1)) t103 _ A7.out).mono ?_);rintro e w13 ⟨rfl,hb⟩;refine ⟨_,rfl,?_⟩;replace BK101:=aE (bB BK101 hb);replace HB:=aE (aD (aX HB) hb);(try clear hb))|((with_reducible refine aJ (f:=58) rfl ?_);refine aV (some 13) Tryz.func58 #[.int .i64 t103] ?_;(with_reducible refine (zL k t103 t104 _ A8.out).mono ?_);rintro e w14 ⟨v105,rfl,ho0,hb⟩;refine ⟨_,rfl,?_⟩;have HO106:=aE (Kd.R_lower ho0 (aT (aX HB)));replace BK101:=aE (bB BK101 hb);replace HB:=aE (aD (aX HB) hb);(try clear hb);(try clear ho0);obtain ⟨Ao15,co15,eo15⟩:=Kd.R_slice HO106.out;subst eo15))
  go_ret
  exact ⟨by first|rfl|(simp [cG,cI] <;> rfl)|(simp only [← hji4,← hji6];first|rfl|(simp [cG,cI] <;> rfl))|(simp [*,cG,cI] <;> rfl),aX HB⟩
 ·replace c3:=Bool.eq_false_iff.mpr c3
  subst c3
  rw [if_neg (show ¬ (false=true) by decide)] at H
  obtain rfl:=Option.some.inj H
  go_enter Tryz.func27,Tryz.ntmps27
  go_wp2_with (first|((with_reducible refine aN (N:=1) rfl ?_);refine bV (N:=1) #[.int .i64 a0_0,.string a0_1] 41 ?_;intro gb101 hg w16 hbox hb;have BK101:=aE (hbox);have GW101:=aE ((dX HB hg));have GE101:=aE ((dX HB hg));replace HB:=aE (aD (aX HB) hb);clear hb hbox hg;have hcz17_0:=aW BK101 0;have hcz17_1:=aW BK101 1;have hfz17_0:=aA BK101.out 0;have hfz17_1:=aA BK101.out 1)|((with_reducible refine aJ (f:=56) rfl ?_);refine aV (some 4) Tryz.func56 #[.agg #[.int .i64 a0_0,.string a0_1]] ?_;(with_reducible refine (gE k a0_0 a0_1 false _ A2.out).mono ?_);rintro e w18 ⟨rfl,hb⟩;refine ⟨_,rfl,?_⟩;replace BK101:=aE (bB BK101 hb);replace HB:=aE (aD (aX HB) hb);(try clear hb)))
  go_ret
  exact ⟨bP,aX HB⟩
end Go.Proofs.YteaagaekdkolnaaGreat.P

namespace Go.Proofs.YteaagaekdkolnaaGreat.P
open Go.RowKit Go.Proofs.YteaagaekdkolnaaGreatW.PrintWords Go.Proofs.YteaagaekdkolnaaGreatW.PrintLast Go.Proofs.YteaagaekdkolnaaGreatW.PrintMore
attribute [local go_sem] max2_int min2_int max_two min_two max_three min_three max_four min_four
set_option linter.unusedVariables false
set_option linter.unusedSimpArgs false
attribute [local go_sem high] eqA28
/-! ### laws_FnGrid: function 3 -/
mutual
def cY:Nat→List (cF)→Int→Int→List Int→List Int→Bool→Int→Int→Int→Int→Option (Bool)
 | 0,_,_,_,_,_,_,_,_,_,_=>none
 | k+1,x3,x4,x5,x10,x11,x86,x112000,x112001,x113000,x113001=>if x86=true then (some false) else ((impl_OnEdge.f k x112000 x112001 x113000 x113001).bind fun t143=>((impl_OnEdge.f k x113000 x113001 x112000 x112001).bind fun t144=>(if t143=t144 then ((spec_ArePoints.f k x3).bind fun t145=>(if t145=true then (if (x10.length:Int)=(wrap64 (Int.tdiv (wrap64 ((wrap64 ((x3.length:Int)*(wrap64 ((x3.length:Int)-1))))*(wrap64 ((x3.length:Int)-2)))) 6)) then (if 0<(x10.length:Int) then (if (rd x10 0)<1 then (fQ k x3 x4 x5 (x3.length:Int) true) else (if (x11.length:Int)=3 then ((spec_HullArea.f k x3).bind fun t147=>(if 0≤(wrap64 ((x10.length:Int)-1)) then (if (wrap64 ((x10.length:Int)-1))<(x10.length:Int) then (fQ k x3 x4 x5 (x3.length:Int) (decide (t147<(rd x10 (wrap64 ((x10.length:Int)-1)))))) else (none)) else (none))) else (fQ k x3 x4 x5 (x3.length:Int) true))) else (none)) else (fQ k x3 x4 x5 (x3.length:Int) true)) else (if x4=(-1) then (if x5=(-1) then (some ((x10.length:Int)==0)) else (some false)) else (some false)))) else (some false))))
def fQ:Nat→List (cF)→Int→Int→Int→Bool→Option (Bool)
 | 0,_,_,_,_,_=>none
 | k+1,x3,x4,x5,x12,x142=>if x142=true then (some false) else ((spec_SignsOf.f k x3).bind fun bt149=>(iL k x3 x4 x5 x12 0 bt149.1 bt149.2.1))
def iL:Nat→List (cF)→Int→Int→Int→Int→Int→ByteArray→Option (Bool)
 | 0,_,_,_,_,_,_,_=>none
 | k+1,x3,x4,x5,x12,x15,x153000,x153001=>if x15<x12 then (if 0≤x15 then (if x15<(x3.length:Int) then ((impl_IsGridInside.f k x3 ((aC x3 x15).f0) ((aC x3 x15).f1)).bind fun t156=>((spec_IsExtreme.f k x153000 x153001 x15).bind fun t157=>(if (t156==t157)=true then (some false) else (iL k x3 x4 x5 x12 (wrap64 (x15+1)) x153000 x153001)))) else (none)) else (none)) else ((spec_HullArea.f k x3).bind fun t153=>(if (wrap64 ((wrap64 ((wrap64 (2*x4))+x5))-2))=t153 then ((spec_HullSize.f k x153000 x153001).bind fun t154=>(some (decide (x5 ≥ t154)))) else (some false)))
end
def laws_FnGrid.f (k:Nat) (l0:List Int):Option (Bool):=(laws_big.f l0).bind fun t101=>(if t101=true then (some true) else ((spec_DrawInnerPoints.f k l0).bind fun t102=>((impl_InnerPoints.f k t102).bind fun t105=>((impl_EdgePoints.f k t102).bind fun t106=>((spec_DrawOnEdge.f k l0).bind fun bt107=>((spec_DrawIsGridInside.f k l0).bind fun bt113=>((impl_TriangleRow.f k t102).bind fun t119=>((impl_SmallestTriangle.f k t102).bind fun t122=>((spec_InnerPoints.f k t102).bind fun t125=>(if t105=t125 then ((spec_EdgePoints.f k t102).bind fun t126=>(if t106=t126 then ((impl_OnEdge.f k bt107.1 bt107.2.1 bt107.2.2.1 bt107.2.2.2).bind fun t127=>((spec_OnEdge.f k bt107.1 bt107.2.1 bt107.2.2.1 bt107.2.2.2).bind fun t128=>(if t127=t128 then ((impl_IsGridInside.f k bt113.1 bt113.2.1 bt113.2.2).bind fun t129=>((spec_IsGridInside.f k bt113.1 bt113.2.1 bt113.2.2).bind fun t130=>(if (t129 != t130)=true then (cY k t102 t105 t106 t119 t122 true bt107.1 bt107.2.1 bt107.2.2.1 bt107.2.2.2) else ((spec_TriangleRow.f k t102).bind fun t131=>((laws_sameInts.f k t119 t131).bind fun t134=>(if t134=true then ((spec_SmallestTriangle.f k t102).bind fun t135=>((laws_sameInts.f k t122 t135).bind fun t138=>(if t138=true then ((impl_CenterTimes.f k t102).bind fun bt139=>((spec_CenterTimes.f k t102).bind fun bt141=>(cY k t102 t105 t106 t119 t122 (!(bt139.1==bt141.1)||(!(bt139.2==bt141.2))) bt107.1 bt107.2.1 bt107.2.2.1 bt107.2.2.2))) else (cY k t102 t105 t106 t119 t122 true bt107.1 bt107.2.1 bt107.2.2.1 bt107.2.2.2)))) else (cY k t102 t105 t106 t119 t122 true bt107.1 bt107.2.1 bt107.2.2.1 bt107.2.2.2))))))) else (cY k t102 t105 t106 t119 t122 true bt107.1 bt107.2.1 bt107.2.2.1 bt107.2.2.2)))) else (cY k t102 t105 t106 t119 t122 true bt107.1 bt107.2.1 bt107.2.2.1 bt107.2.2.2))) else (cY k t102 t105 t106 t119 t122 true bt107.1 bt107.2.1 bt107.2.2.1 bt107.2.2.2)))))))))))
def uC:Bool×List (List Nat×List Nat):=(true,[([],[]),([],[]),([1],[1]),([0,2],[0,2]),([3,2],[3]),([4],[4]),([4],[4]),([6,4,4],[4,6]),([5,7,4],[4,5,7]),([4,8],[4,8]),([9,7],[9]),([10],[10]),([10],[10]),([11,12,10,10],[10,11,12]),([10],[10]),([10],[10]),([14,15,13,10],[10,14,15]),([13,16,10],[10,13,16]),([10,17],[10,17]),([18,16],[18]),([19],[19]),([19],[19]),([20,21,19,19],[19,20,21]),([19],[19]),([19],[19]),([23,24,22,19],[19,23,24]),([22,25,19],[19,22,25]),([19,26],[19,26]),([27,25],[27]),([28],[28]),([28],[28]),([30,28,28],[28,30]),([29,31,31,28],[28,29,31]),([32,28],[28,32]),([28,33],[28,33]),([34,32],[34]),([35],[35]),([35],[35]),([37,35,35],[35,37]),([36,38,38,35],[35,36,38]),([39,35],[35,39]),([35,40],[35,40]),([41,39],[41]),([42],[42]),([43,42,42],[42,43]),([42],[42]),([45,44,42],[42,45]),([44,46,42],[42,44,46]),([42,47],[42,47])])
def CV:List Nat:=[0,0,2,7,15,31,31,95,255,511,1023,2047,2047,8191,2047,2047,65535,131071,262143,524287,1048575,1048575,4194303,1048575,1048575,33554431,67108863,134217727,268435455,536870911,536870911,1610612735,4294967295,8589934591,17179869183,34359738367,68719476735,68719476735,206158430207,549755813887,1099511627775,2199023255551,4398046511103,8796093022207,17592186044415,8796093022207,70368744177663,140737488355327,281474976710655]
theorem zM:iQ .any (iS Tryz.f3 10)=uC:=by kernel_rfl
theorem yE:dM uC.2 CV=true:=by kernel_rfl
def uD:Bool×List (List Nat×List Nat):=(true,[([],[]),([0],[0]),([],[]),([],[]),([3],[3]),([2,4],[2,4]),([],[]),([6],[6]),([5,7],[5,7]),([8],[8]),([1,9],[1,9]),([10],[10]),([11],[11]),([12,11],[11,12]),([13,11],[11,13]),([14,11],[11,14]),([11,15],[11,15]),([16,11],[16]),([17],[17]),([18,17],[17,18]),([19,17],[17,19]),([17,20],[17,20]),([21,17],[21]),([22],[22]),([23,22,22],[22,23]),([22],[22]),([22],[22]),([26,22],[22,26]),([27,22],[22,27]),([25,28,22],[22,25,28]),([29,22],[22,29]),([24,30,22],[22,24,30]),([22,31],[22,31])])
def CW:List Nat:=[0,1,0,0,8,28,0,64,252,508,1023,2047,4095,8191,16383,32767,65535,131071,262143,524287,1048575,2097151,4194303,8388607,16777215,8388607,8388607,75497471,209715199,511705087,1048575999,2147483647,4294967295]
theorem zN:iQ .any (iS Tryz.f3 17)=uD:=by kernel_rfl
theorem yF:dM uD.2 CW=true:=by kernel_rfl
def uE:Bool×List (List Nat×List Nat):=(true,[([],[]),([],[]),([],[]),([1,2],[1,2]),([3],[3]),([0,4],[0,4]),([],[]),([],[]),([6,7,5],[6,7]),([5,8],[5,8])])
def CX:List Nat:=[0,0,0,6,14,31,0,0,255,511]
theorem zO:iQ .any (iS Tryz.f3 23)=uE:=by kernel_rfl
theorem yG:dM uE.2 CX=true:=by kernel_rfl
theorem jM:∀ k y0 y1 y2 y3 y4 y6 y7 y8 y9,cY k y0 y1 y2 y3 y4 true y6 y7 y8 y9≠some true:=by
 intro k
 intros
 cases k <;> simp [cY]
theorem mV:∀ k y0 y1 y2 y3,fQ k y0 y1 y2 y3 true≠some true:=by
 intro k
 intros
 cases k <;> simp [fQ]
set_option maxHeartbeats 8000000 in
set_option maxRecDepth 100000 in
theorem zP (k : Nat) (A0 : Option Addr) (c0 : Nat) (l0 : List Int) (r : Bool) (w : World) (hr0 : Kd.C (Kd.int .u8) w A0 l0.length l0) (hc0 : l0.length ≤ c0) (h : laws_FnGrid.f k l0 = some true) :
  Calls Tryz.prog 3 #[.slice A0 l0.length c0] w fun e w'=>e=.returned (.bool true)∧Below w.heap.size w w':=by
 have hu28:=Tryz.underlying28
 have hu41:=Tryz.underlying41
 have HR0:=aE hr0
 have HC0:=aE hc0
 clear hr0 hc0
 have HB:=aE (Below.refl w.heap.size w)
 unfold laws_FnGrid.f at h
 have H:=h
 clear h
 replace H:=eM H
 obtain ⟨t101,A2,H⟩:=H
 by_cases c3:t101=true
 ·subst c3
  have H1:(some true:Option Bool)=some true:=rfl
  clear H
  have H:=H1
  clear H1
  clear H
  go_enter Tryz.func3,Tryz.ntmps3
  go_wp2_with (first|((with_reducible refine aJ (f:=4) rfl ?_);refine aV (some 17) Tryz.func4 #[.slice A0 l0.length c0] ?_;(with_reducible refine (uZ _ _ l0 true _ ?side1 ?side2 A2.out).mono ?_);(case side1=>exact kJ HR0.out);(case side2=>exact HC0.out);rintro e w' ⟨rfl,⟨nd,rfl⟩⟩;refine ⟨_,rfl,?_⟩))
  go_ret
  exact ⟨bP,aX HB⟩
 ·replace c3 := Bool.eq_false_iff.mpr c3
  subst c3
  rw [if_neg (show ¬ (false=true) by decide)] at H
  replace H:=eM H
  obtain ⟨t102,A4,H⟩:=H
  replace H:=eM H
  obtain ⟨t105,A5,H⟩:=H
  replace H:=eM H
  obtain ⟨t106,A6,H⟩:=H
  replace H:=eM H
  obtain ⟨⟨t107,t108,t109,t110⟩,A7,H⟩:=H
  try dsimp only at H
  replace H:=eM H
  obtain ⟨⟨t113,t116,t117⟩,A8,H⟩:=H
  try dsimp only at H
  replace H:=eM H
  obtain ⟨t119,A9,H⟩:=H
  replace H:=eM H
  obtain ⟨t122,A10,H⟩:=H
  have HC11:=aE H
  clear H
  go_enter Tryz.func3,Tryz.ntmps3
  go_upto_region 10 with (first|((with_reducible refine aJ (f:=4) rfl ?_);refine aV (some 17) Tryz.func4 #[.slice A0 l0.length c0] ?_;(with_reducible refine (uZ _ _ l0 false _ ?side1 ?side2 A2.out).mono ?_);(case side1=>exact kJ HR0.out);(case side2=>exact HC0.out);rintro e w' ⟨rfl,⟨nd,rfl⟩⟩;refine ⟨_,rfl,?_⟩)|((with_reducible refine aJ (f:=5) rfl ?_);refine aV (some 19) Tryz.func5 #[.slice A0 l0.length c0] ?_;(with_reducible refine (pH k _ _ l0 t102 _ ?side1 ?side2 A4.out).mono ?_);(case side1=>exact kJ HR0.out);(case side2=>exact HC0.out);rintro e w12 ⟨v103,rfl,ho0,hb⟩;refine ⟨_,rfl,?_⟩;have HO104:=aE (Kd.R_lower ho0 (aT (aX HB)));replace HB:=aE (aD (aX HB) hb);(try clear hb);(try clear hk);(try clear ho0);obtain ⟨Ao13,co13,eo13⟩:=Kd.R_slice HO104.out;subst eo13)|((with_reducible refine aJ (f:=6) rfl ?_);refine aV (some 21) Tryz.func6 #[.slice Ao13 t102.length co13] ?_;(with_reducible refine (tB k _ _ t102 t105 _ ?side1 ?side2 A5.out).mono ?_);(case side1=>exact kJ (Kd.R_reads' HO104.out).2.2);(case side2=>exact (Kd.R_reads' HO104.out).2.1);rintro e w14 ⟨rfl,hb⟩;refine ⟨_,rfl,?_⟩;replace HO104:=aE (Kd.R_below (bN HO104) hb);replace HB:=aE (aD (aX HB) hb);(try clear hb);(try clear hk))|((with_reducible refine aJ (f:=7) rfl ?_);refine aV (some 23) Tryz.func7 #[.slice Ao13 t102.length co13] ?_;(with_reducible refine (nE k _ _ t102 t106 _ ?side1 ?side2 A6.out).mono ?_);(case side1=>exact kJ (Kd.R_reads' HO104.out).2.2);(case side2=>exact (Kd.R_reads' HO104.out).2.1);rintro e w15 ⟨rfl,hb⟩;refine ⟨_,rfl,?_⟩;replace HO104:=aE (Kd.R_below (bN HO104) hb);replace HB:=aE (aD (aX HB) hb);(try clear hb);(try clear hk))|((with_reducible refine aJ (f:=8) rfl ?_);refine aV (some 26) Tryz.func8 #[.slice A0 l0.length c0] ?_;(with_reducible refine (uM k _ _ l0 t107 t108 t109 t110 _ ?side1 ?side2 A7.out).mono ?_);(case side1=>exact kJ (Kd.C_below HR0.out HB.out));(case side2=>exact HC0.out);rintro e w16 ⟨rfl,hb⟩;refine ⟨_,rfl,?_⟩;replace HO104:=aE (Kd.R_below (bN HO104) hb);replace HB:=aE (aD (aX HB) hb);(try clear hb);(try clear hk))|((with_reducible refine aN (N:=6) rfl ?_);(try (refine fS (by rfl) ?_;dsimp only));refine bV (N:=6) #[.int .i64 0,.int .i64 0] 28 ?_;intro gb111 hg w17 hbox hb;replace HO104:=aE (Kd.R_below (Kd.R_elderB (bN HO104) gb111 (Nat.le_of_eq hg.symm)) hb);have BK111:=aE (hbox);have GW111:=aE ((dX HB hg));have GE111:=aE ((dX HB hg));replace HB:=aE (aD (aX HB) hb);clear hb hbox hg)|((with_reducible refine aN (N:=7) rfl ?_);(try (refine fS (by rfl) ?_;dsimp only));refine bV (N:=7) #[.int .i64 0,.int .i64 0] 28 ?_;intro gb112 hg w18 hbox hb;replace HO104:=aE (Kd.R_below (Kd.R_elderB (bN HO104) gb112 (Nat.le_of_eq hg.symm)) hb);have BK112:=aE (hbox);have GW112:=aE ((dX HB hg));have GE112:=aE ((dX HB hg));replace HB:=aE (aD (aX HB) hb);have NB111_112:=aE ((iX BK111 hg));have NB112_111:=aE ((iY BK111 hg));replace BK111:=aE (bB BK111 hb);clear hb hbox hg;have hnb19:=NB111_112.out;have hnc19:=NB112_111.out;have hcz20_0:=aW BK111 0;have hcz20_1:=aW BK111 1;have hfz20_0:=aA BK111.out 0;have hfz20_1:=aA BK111.out 1;have hcz21_0:=aW BK112 0;have hcz21_1:=aW BK112 1;have hfz21_0:=aA BK112.out 0;have hfz21_1:=aA BK112.out 1)|((with_reducible refine aJ (f:=9) rfl ?_);refine aV (some 31) Tryz.func9 #[.slice A0 l0.length c0] ?_;(with_reducible refine (pI k _ _ l0 t113 t116 t117 _ ?side1 ?side2 A8.out).mono ?_);(case side1=>exact Kd.C_below HR0.out (aX HB));(case side2=>exact HC0.out);rintro e w22 ⟨v114,rfl,ho0,hb⟩;refine ⟨_,rfl,?_⟩;have HO115:=aE (Kd.R_lower (Kd.R_newB (Kd.R_newB (Kd.R_new' ho0 (Kd.R_lt (by (with_reducible repeat (first|apply kD|apply kE|apply gU));exact (Kd.R_mono (Kd.R_mono (Kd.R_far (p:=⟨gb112,1,none⟩) (Kd.R_far (p:=⟨gb112,0,none⟩) (Kd.R_far (p:=⟨gb111,1,none⟩) (Kd.R_far (p:=⟨gb111,0,none⟩) (Kd.R_mono (Kd.R_mono HO104.out (fun k_ hk=>(⟨hk,hk.1.2⟩:_∧k_≠gb111))) (fun k_ hk=>(⟨hk,hk.1.2⟩:_∧k_≠gb112))) (fun _ hk=>hk.1.2) (.int .i64 t107)) (fun _ hk=>hk.1.2) (.int .i64 t108)) (fun _ hk=>hk.2) (.int .i64 t109)) (fun _ hk=>hk.2) (.int .i64 t110)) (fun _ h_=>h_.1)) (fun _ h_=>h_.1))))) (g:=gb111) (o:=.cells #[.int .i64 t107,.int .i64 t108] 28 (0,0)) (jR BK111)) (g:=gb112) (o:=.cells #[.int .i64 t109,.int .i64 t110] 28 (0,0)) (by (with_reducible repeat (first|refine aM ?_ _|refine aI ?_|refine aK ?_ _));refine bQ (cs:=#[.int .i64 t109,.int .i64 0]) ?_ 1 _ rfl;(with_reducible repeat (first|refine aM ?_ _|refine aI ?_|refine aK ?_ _));refine bQ (cs:=#[.int .i64 0,.int .i64 0]) ?_ 0 _ rfl;(with_reducible repeat (first|refine aM ?_ _|refine aI ?_|refine aK ?_ _));refine bC ?_ NB112_111.out _;(with_reducible repeat (first|refine aM ?_ _|refine aI ?_|refine aK ?_ _));refine bC ?_ NB112_111.out _;(with_reducible repeat (first|refine aM ?_ _|refine aI ?_|refine aK ?_ _));exact BK112.out)) (aT (aX HB)));replace HO104:=aE (Kd.R_elder' (by (with_reducible repeat (first|apply kD|apply kE|apply gU));exact (Kd.R_mono (Kd.R_mono (Kd.R_far (p:=⟨gb112,1,none⟩) (Kd.R_far (p:=⟨gb112,0,none⟩) (Kd.R_far (p:=⟨gb111,1,none⟩) (Kd.R_far (p:=⟨gb111,0,none⟩) (Kd.R_mono (Kd.R_mono HO104.out (fun k_ hk=>(⟨hk,hk.1.2⟩:_∧k_≠gb111))) (fun k_ hk=>(⟨hk,hk.1.2⟩:_∧k_≠gb112))) (fun _ hk=>hk.1.2) (.int .i64 t107)) (fun _ hk=>hk.1.2) (.int .i64 t108)) (fun _ hk=>hk.2) (.int .i64 t109)) (fun _ hk=>hk.2) (.int .i64 t110)) (fun _ h_=>h_.1)) (fun _ h_=>h_.1))) (Kd.R_base ho0) hb);replace BK111:=aE (aZ (g:=gb111) (o:=.cells #[.int .i64 t107,.int .i64 t108] 28 (0,0)) (jR BK111) hb);replace BK112:=aE (aZ (g:=gb112) (o:=.cells #[.int .i64 t109,.int .i64 t110] 28 (0,0)) (by (with_reducible repeat (first|refine aM ?_ _|refine aI ?_|refine aK ?_ _));refine bQ (cs:=#[.int .i64 t109,.int .i64 0]) ?_ 1 _ rfl;(with_reducible repeat (first|refine aM ?_ _|refine aI ?_|refine aK ?_ _));refine bQ (cs:=#[.int .i64 0,.int .i64 0]) ?_ 0 _ rfl;(with_reducible repeat (first|refine aM ?_ _|refine aI ?_|refine aK ?_ _));refine bC ?_ NB112_111.out _;(with_reducible repeat (first|refine aM ?_ _|refine aI ?_|refine aK ?_ _));refine bC ?_ NB112_111.out _;(with_reducible repeat (first|refine aM ?_ _|refine aI ?_|refine aK ?_ _));exact BK112.out) hb);replace HB:=aE (aD (aX HB) hb);(try clear hb);(try clear hk);(try clear ho0))|((with_reducible refine aN (N:=9) rfl ?_);(try (refine fS (by rfl) ?_;dsimp only));refine bV (N:=9) #[.int .i64 0,.int .i64 0] 28 ?_;intro gb118 hg w23 hbox hb;replace HO104:=aE (Kd.R_below (Kd.R_elderB (bN HO104) gb118 (Nat.le_of_eq hg.symm)) hb);replace HO115:=aE (Kd.R_below (Kd.R_elderB (bN HO115) gb118 (Nat.le_of_eq hg.symm)) hb);have BK118:=aE (hbox);have GW118:=aE ((dX HB hg));have GE118:=aE ((dX HB hg));replace HB:=aE (aD (aX HB) hb);have NB111_118:=aE ((iX BK111 hg));have NB118_111:=aE ((iY BK111 hg));replace BK111:=aE (bB BK111 hb);have NB112_118:=aE ((iX BK112 hg));have NB118_112:=aE ((iY BK112 hg));replace BK112:=aE (bB BK112 hb);clear hb hbox hg;have hnb24:=NB118_111.out;have hnc24:=NB111_118.out;have hnb25:=NB118_112.out;have hnc25:=NB112_118.out;have hcz26_0:=aW BK118 0;have hcz26_1:=aW BK118 1;have hfz26_0:=aA BK118.out 0;have hfz26_1:=aA BK118.out 1)|((with_reducible refine aJ (f:=10) rfl ?_);refine aV (some 35) Tryz.func10 #[.slice Ao13 t102.length co13] ?_;(with_reducible refine (tC k _ _ t102 t119 _ ?side1 ?side2 A9.out).mono ?_);(case side1=>refine (Kd.R_reads' (e:=28) (base:=w.heap.size) (ok:=fun k_=>((((True∧k_≠gb111)∧k_≠gb112)∧some k_≠(v114:Value).ownBlock)∧k_≠gb118)) (n:=t102.length) (c:=co13) ?_).2.2;exact (by (with_reducible repeat (first|apply kD|apply kE|apply gU));exact (Kd.R_mono (Kd.R_far (p:=⟨gb118,1,none⟩) (Kd.R_far (p:=⟨gb118,0,none⟩) (Kd.R_mono HO104.out (fun k_ hk=>(⟨hk,hk.2⟩:_∧k_≠gb118))) (fun _ hk=>hk.2) (.int .i64 t116)) (fun _ hk=>hk.2) (.int .i64 t117)) (fun _ h_=>h_.1))));(case side2=>exact (Kd.R_reads' HO104.out).2.1);rintro e w27 ⟨v120,rfl,ho0,hb⟩;refine ⟨_,rfl,?_⟩;replace HO104:=aE (Kd.R_below (by (with_reducible repeat (first|apply kD|apply kE|apply gU));exact (Kd.R_mono (Kd.R_far (p:=⟨gb118,1,none⟩) (Kd.R_far (p:=⟨gb118,0,none⟩) (Kd.R_mono HO104.out (fun k_ hk=>(⟨hk,hk.2⟩:_∧k_≠gb118))) (fun _ hk=>hk.2) (.int .i64 t116)) (fun _ hk=>hk.2) (.int .i64 t117)) (fun _ h_=>h_.1))) hb);replace HO115:=aE (Kd.R_below (by (with_reducible repeat (first|apply kD|apply kE|apply gU));exact (Kd.R_mono (Kd.R_far (p:=⟨gb118,1,none⟩) (Kd.R_far (p:=⟨gb118,0,none⟩) (Kd.R_mono HO115.out (fun k_ hk=>(⟨hk,hk.2⟩:_∧k_≠gb118))) (fun _ hk=>hk.2) (.int .i64 t116)) (fun _ hk=>hk.2) (.int .i64 t117)) (fun _ h_=>h_.1))) hb);have HO121:=aE (Kd.R_lower ho0 (aT (aX HB)));replace BK111:=aE (aZ (g:=gb111) (o:=.cells #[.int .i64 t107,.int .i64 t108] 28 (0,0)) (jR BK111) hb);replace BK112:=aE (aZ (g:=gb112) (o:=.cells #[.int .i64 t109,.int .i64 t110] 28 (0,0)) (jR BK112) hb);replace BK118:=aE (aZ (g:=gb118) (o:=.cells #[.int .i64 t116,.int .i64 t117] 28 (0,0)) (jR BK118) hb);replace HB:=aE (aD (aX HB) hb);(try clear hb);(try clear hk);(try clear ho0))|((with_reducible refine aJ (f:=11) rfl ?_);refine aV (some 37) Tryz.func11 #[.slice Ao13 t102.length co13] ?_;(with_reducible refine (pJ k _ _ t102 t122 _ ?side1 ?side2 A10.out).mono ?_);(case side1=>exact kJ (Kd.R_reads' HO104.out).2.2);(case side2=>exact (Kd.R_reads' HO104.out).2.1);rintro e w28 ⟨v123,rfl,ho0,hb⟩;refine ⟨_,rfl,?_⟩;replace HO104:=aE (Kd.R_below (bN HO104) hb);replace HO115:=aE (Kd.R_below (bN HO115) hb);have HO124:=aE (Kd.R_lower (Kd.R_new' ho0 (Kd.R_lt (bN HO121))) (aT (aX HB)));replace HO121:=aE (Kd.R_elder' (bN HO121) (Kd.R_base ho0) hb);replace BK111:=aE (bB BK111 hb);replace BK112:=aE (bB BK112 hb);replace BK118:=aE (bB BK118 hb);replace HB:=aE (aD (aX HB) hb);(try clear hb);(try clear hk);(try clear ho0)))
  (try simp only [Act.put,List.setIfInBounds_toArray,List.set_cons_zero,List.set_cons_succ])
  go_cut [86] (fun v86 wc=>∃ (kq:Nat) (x86_10:Bool),v86=.bool x86_10∧Aside0 (cY kq t102 t105 t106 t119 t122 x86_10 t107 t108 t109 t110=some true)∧Aside0 (kq≤k)∧Aside0 (Kd.R jW 28 wc w.heap.size (fun k_=>k_≠gb111∧k_≠gb112∧k_≠gb118) (.slice Ao13 t102.length co13) t102)∧Aside0 (Kd.R (Kd.int .i64) 3 wc w.heap.size (fun k_=>some k_≠(v123:Value).ownBlock) v120 t119)∧Aside0 (Kd.R (Kd.int .i64) 3 wc w.heap.size (fun k_=>some k_≠(v120:Value).ownBlock) v123 t122)∧Aside0 (wc.heap[gb111]? = some (.cells #[.int .i64 t107,.int .i64 t108] 28 (0,0)))∧Aside0 (wc.heap[gb112]? = some (.cells #[.int .i64 t109,.int .i64 t110] 28 (0,0)))∧Aside0 (wc.heap[gb118]? = some (.cells #[.int .i64 t116,.int .i64 t117] 28 (0,0)))∧Aside0 (Below w.heap.size w wc))
  case first =>
   have H:=HC11.out
   clear HC11
   replace H:=eM H
   obtain ⟨t125,A29,H⟩:=H
   replace H:=jE H
   rcases H with ⟨c30,H⟩|⟨c30,H⟩
   ·have c30b0 : (t105 == t125) = true := beq_iff_eq.mpr c30
    have c30b1:(t105 != t125)=false:=bne_eq_false_iff_eq.mpr c30
    clear c30
    (first|rw [c30b0]|(simp only [cC,dW];rw [c30b0])|skip)
    replace H:=eM H
    obtain ⟨t126,A31,H⟩:=H
    replace H:=jE H
    rcases H with ⟨c32,H⟩|⟨c32,H⟩
    ·have c32b0:(t106==t126)=true:=beq_iff_eq.mpr c32
     have c32b1:(t106 != t126)=false:=bne_eq_false_iff_eq.mpr c32
     clear c32
     replace H:=eM H
     obtain ⟨t127,A33,H⟩:=H
     replace H:=eM H
     obtain ⟨t128,A34,H⟩:=H
     replace H:=jE H
     rcases H with ⟨c35,H⟩|⟨c35,H⟩
     ·have c35b0:(t127==t128)=true:=beq_iff_eq.mpr c35
      have c35b1:(t127 != t128)=false:=bne_eq_false_iff_eq.mpr c35
      clear c35
      replace H:=eM H
      obtain ⟨t129,A36,H⟩:=H
      replace H:=eM H
      obtain ⟨t130,A37,H⟩:=H
      replace H:=jE H
      rcases H with ⟨c38,H⟩|⟨c38,H⟩
      ·exact absurd H (jM _ _ _ _ _ _ _ _ _ _)
      ·obtain rfl:t129=t130:=by simpa using c38
       have c38b0:(t129 != t129)=false:=bne_self_eq_false _
       clear c38
       replace H:=eM H
       obtain ⟨t131,A47,H⟩:=H
       replace H:=eM H
       obtain ⟨t134,A48,H⟩:=H
       by_cases c49:t134=true
       ·subst c49
        rw [if_pos rfl] at H
        replace H:=eM H
        obtain ⟨t135,A50,H⟩:=H
        replace H:=eM H
        obtain ⟨t138,A51,H⟩:=H
        by_cases c52:t138=true
        ·subst c52
         rw [if_pos rfl] at H
         replace H:=eM H
         obtain ⟨⟨t139,t140⟩,A53,H⟩:=H
         try dsimp only at H
         replace H:=eM H
         obtain ⟨⟨t141,t142⟩,A54,H⟩:=H
         try dsimp only at H
         have H':=aE H
         clear H
         try go_wp2
         replace HO104:=aE (gU HO104.out)
         replace HO115:=aE (gU HO115.out)
         replace HO121:=aE (gU HO121.out)
         replace HO124:=aE (gU HO124.out)
         replace BK111:=aE (aI BK111.out)
         replace BK112:=aE (aI BK112.out)
         replace BK118:=aE (aI BK118.out)
         replace HB:=aE (jK HB.out)
         refine dA (n:=49) (S:=fun w'=>w'.cell? ⟨gb111,0,none⟩=some (.int .i64 t107)∧w'.cell? ⟨gb111,1,none⟩=some (.int .i64 t108)∧w'.cell? ⟨gb112,0,none⟩=some (.int .i64 t109)∧w'.cell? ⟨gb112,1,none⟩=some (.int .i64 t110)∧w'.cell? ⟨gb118,0,none⟩=some (.int .i64 t116)∧w'.cell? ⟨gb118,1,none⟩=some (.int .i64 t117)) (ds:=[]) (bm 49 0) (by kernel_rfl) rfl rfl ⟨aW BK111 0,aW BK111 1,aW BK112 0,aW BK112 1,aW BK118 0,aW BK118 1⟩ (fun hHeld=>?_);refine bO zM yE (fun HT_ HW_=>?_)
         generalize w28.drew=w55 at HO104 HO115 HO121 HO124 BK111 BK112 BK118 HB hHeld ⊢
         refine bU ((0,0,38,1)::(0,1,39,3)::[]) ?_
         iterate 2 (first|refine jT HT_ ?_)
         refine aU ?_
         refine dQ (i:=2) (N:=some 40) (bm 49 7) rfl rfl (bJ HT_.out (by kernel_rfl)) (by decide) (fun K hK=>?_)
         refine cN Tryz.func12 #[.slice Ao13 t102.length co13] ?_
         with_reducible refine (tE k _ _ t102 t125 _ ?side1 ?side2 A29.out).mono ?_
         (case side1=>exact kJ (Kd.R_reads' HO104.out).2.2)
         (case side2=>exact (Kd.R_reads' HO104.out).2.1)
         rintro e w56 ⟨rfl,hb⟩
         refine ⟨_,rfl,?_⟩
         replace HO104:=aE (Kd.R_below (bN HO104) hb)
         replace HO115:=aE (Kd.R_below (bN HO115) hb)
         replace HO121:=aE (Kd.R_below (bN HO121) hb)
         replace HO124:=aE (Kd.R_below (bN HO124) hb)
         replace BK111:=aE (bB BK111 hb)
         replace BK112:=aE (bB BK112 hb)
         replace BK118:=aE (bB BK118 hb)
         replace HB:=aE (aD (aX HB) hb)
         (try clear hb)
         (try clear hk)
         refine hK.out _ _ ⟨aW BK111 0,aW BK111 1,aW BK112 0,aW BK112 1,aW BK118 0,aW BK118 1⟩ (fun hHeld=>?_)
         clear hK K
         refine gA ?_
         refine bU ((0,3,41,15)::(0,4,42,31)::(0,5,43,63)::(0,6,44,127)::[]) ?_
         iterate 4 (first|refine jT HT_ ?_)
         refine aU ?_
         refine dQ (i:=7) (N:=some 45) (bm 49 255) rfl rfl (bJ HT_.out (by kernel_rfl)) (by decide) (fun K hK=>?_)
         refine cN Tryz.func13 #[.slice Ao13 t102.length co13] ?_
         with_reducible refine (uQ k _ _ t102 t126 _ ?side1 ?side2 A31.out).mono ?_
         (case side1=>exact kJ (Kd.R_reads' HO104.out).2.2)
         (case side2=>exact (Kd.R_reads' HO104.out).2.1)
         rintro e w57 ⟨rfl,hb⟩
         refine ⟨_,rfl,?_⟩
         replace HO104:=aE (Kd.R_below (bN HO104) hb)
         replace HO115:=aE (Kd.R_below (bN HO115) hb)
         replace HO121:=aE (Kd.R_below (bN HO121) hb)
         replace HO124:=aE (Kd.R_below (bN HO124) hb)
         replace BK111:=aE (bB BK111 hb)
         replace BK112:=aE (bB BK112 hb)
         replace BK118:=aE (bB BK118 hb)
         replace HB:=aE (aD (aX HB) hb)
         (try clear hb)
         (try clear hk)
         refine hK.out _ _ ⟨aW BK111 0,aW BK111 1,aW BK112 0,aW BK112 1,aW BK118 0,aW BK118 1⟩ (fun hHeld=>?_)
         clear hK K
         refine gA ?_
         refine bU ((0,8,46,511)::(0,9,47,1023)::(0,10,48,2047)::(2,11,49,4095)::(2,12,50,8191)::(2,14,52,24575)::(2,15,53,57343)::[]) ?_
         iterate 7 (first|refine jT HT_ ?_|refine pZ HT_ HW_ hHeld ?_)
         refine aU ?_
         refine dQ (i:=13) (N:=some 51) (bm 49 65535) rfl rfl (bJ HT_.out (by kernel_rfl)) (by decide) (fun K hK=>?_)
         refine cN Tryz.func14 #[.agg #[.int .i64 t107,.int .i64 t108],.agg #[.int .i64 t109,.int .i64 t110]] ?_
         with_reducible refine (jL k t107 t108 t109 t110 t127 _ A33.out).mono ?_
         rintro e w58 ⟨rfl,hb⟩
         refine ⟨_,rfl,?_⟩
         replace HO104:=aE (Kd.R_below (bN HO104) hb)
         replace HO115:=aE (Kd.R_below (bN HO115) hb)
         replace HO121:=aE (Kd.R_below (bN HO121) hb)
         replace HO124:=aE (Kd.R_below (bN HO124) hb)
         replace BK111:=aE (bB BK111 hb)
         replace BK112:=aE (bB BK112 hb)
         replace BK118:=aE (bB BK118 hb)
         replace HB:=aE (aD (aX HB) hb)
         (try clear hb)
         (try clear hk)
         refine hK.out _ _ ⟨aW BK111 0,aW BK111 1,aW BK112 0,aW BK112 1,aW BK118 0,aW BK118 1⟩ (fun hHeld=>?_)
         clear hK K
         refine gA ?_
         refine dQ (i:=16) (N:=some 54) (bm 49 131071) rfl rfl (bJ HT_.out (by kernel_rfl)) (by decide) (fun K hK=>?_)
         refine cN Tryz.func15 #[.agg #[.int .i64 t107,.int .i64 t108],.agg #[.int .i64 t109,.int .i64 t110]] ?_
         with_reducible refine (rL k t107 t108 t109 t110 t128 _ A34.out).mono ?_
         rintro e w59 ⟨rfl,hb⟩
         refine ⟨_,rfl,?_⟩
         replace HO104:=aE (Kd.R_below (bN HO104) hb)
         replace HO115:=aE (Kd.R_below (bN HO115) hb)
         replace HO121:=aE (Kd.R_below (bN HO121) hb)
         replace HO124:=aE (Kd.R_below (bN HO124) hb)
         replace BK111:=aE (bB BK111 hb)
         replace BK112:=aE (bB BK112 hb)
         replace BK118:=aE (bB BK118 hb)
         replace HB:=aE (aD (aX HB) hb)
         (try clear hb)
         (try clear hk)
         obtain ⟨Ao60,co60,eo60⟩:=Kd.R_slice HO115.out
         (first|subst eo60|(injection eo60 with f1_ f2_ f3_;have f4_:=f1_.symm;have f5_:=f3_.symm;clear f1_ f2_ f3_;subst f4_;subst f5_))
         refine hK.out _ _ ⟨aW BK111 0,aW BK111 1,aW BK112 0,aW BK112 1,aW BK118 0,aW BK118 1⟩ (fun hHeld=>?_)
         clear hK K
         refine gA ?_
         refine bU ((0,17,55,262143)::(0,18,56,524287)::(0,19,57,1048575)::(0,20,58,2097151)::(0,23,61,10485759)::(2,21,59,12582911)::(2,24,62,29360127)::[]) ?_
         iterate 7 (first|refine jT HT_ ?_|refine pZ HT_ HW_ hHeld ?_)
         refine aU ?_
         refine dQ (i:=22) (N:=some 60) (bm 49 33554431) rfl rfl (bJ HT_.out (by kernel_rfl)) (by decide) (fun K hK=>?_)
         refine cN Tryz.func16 #[.slice Ao60 t113.length co60,.agg #[.int .i64 t116,.int .i64 t117]] ?_
         with_reducible refine (mK k _ _ t113 t116 t117 t129 _ ?side1 ?side2 A36.out).mono ?_
         (case side1=>exact kJ (Kd.R_reads' HO115.out).2.2)
         (case side2=>exact (Kd.R_reads' HO115.out).2.1)
         rintro e w61 ⟨rfl,hb⟩
         refine ⟨_,rfl,?_⟩
         replace HO104:=aE (Kd.R_below (bN HO104) hb)
         replace HO115:=aE (Kd.R_below (bN HO115) hb)
         replace HO121:=aE (Kd.R_below (bN HO121) hb)
         replace HO124:=aE (Kd.R_below (bN HO124) hb)
         replace BK111:=aE (bB BK111 hb)
         replace BK112:=aE (bB BK112 hb)
         replace BK118:=aE (bB BK118 hb)
         replace HB:=aE (aD (aX HB) hb)
         (try clear hb)
         (try clear hk)
         refine hK.out _ _ ⟨aW BK111 0,aW BK111 1,aW BK112 0,aW BK112 1,aW BK118 0,aW BK118 1⟩ (fun hHeld=>?_)
         clear hK K
         refine gA ?_
         refine dQ (i:=25) (N:=some 63) (bm 49 67108863) rfl rfl (bJ HT_.out (by kernel_rfl)) (by decide) (fun K hK=>?_)
         refine cN Tryz.func17 #[.slice Ao60 t113.length co60,.agg #[.int .i64 t116,.int .i64 t117]] ?_
         with_reducible refine (sK k _ _ t113 t116 t117 t129 _ ?side1 ?side2 A37.out).mono ?_
         (case side1=>exact kJ (Kd.R_reads' HO115.out).2.2)
         (case side2=>exact (Kd.R_reads' HO115.out).2.1)
         rintro e w62 ⟨rfl,hb⟩
         refine ⟨_,rfl,?_⟩
         replace HO104:=aE (Kd.R_below (bN HO104) hb)
         replace HO115:=aE (Kd.R_below (bN HO115) hb)
         replace HO121:=aE (Kd.R_below (bN HO121) hb)
         replace HO124:=aE (Kd.R_below (bN HO124) hb)
         replace BK111:=aE (bB BK111 hb)
         replace BK112:=aE (bB BK112 hb)
         replace BK118:=aE (bB BK118 hb)
         replace HB:=aE (aD (aX HB) hb)
         (try clear hb)
         (try clear hk)
         refine hK.out _ _ ⟨aW BK111 0,aW BK111 1,aW BK112 0,aW BK112 1,aW BK118 0,aW BK118 1⟩ (fun hHeld=>?_)
         clear hK K
         refine gA ?_
         refine bU ((0,26,64,134217727)::(0,27,65,268435455)::(0,28,66,536870911)::(0,29,67,1073741823)::(0,30,68,2147483647)::[]) ?_
         iterate 5 (first|refine jT HT_ ?_)
         refine aU ?_
         refine dQ (i:=31) (N:=some 69) (bm 49 4294967295) rfl rfl (bJ HT_.out (by kernel_rfl)) (by decide) (fun K hK=>?_)
         refine cN Tryz.func19 #[.slice Ao13 t102.length co13] ?_
         with_reducible refine (mU k _ _ t102 t131 _ ?side1 ?side2 A47.out).mono ?_
         (case side1=>exact kJ (Kd.R_reads' HO104.out).2.2)
         (case side2=>exact (Kd.R_reads' HO104.out).2.1)
         rintro e w63 ⟨v132,rfl,ho0,hb⟩
         refine ⟨_,rfl,?_⟩
         replace HO104:=aE (Kd.R_below (bN HO104) hb)
         replace HO115:=aE (Kd.R_below (bN HO115) hb)
         have HO133:=aE (Kd.R_lower (Kd.R_new' (Kd.R_new' ho0 (Kd.R_lt (bN HO121))) (Kd.R_lt (bN HO124))) (aT (aX HB)))
         replace HO121:=aE (Kd.R_elder' (bN HO121) (Kd.R_base ho0) hb)
         replace HO124:=aE (Kd.R_elder' (bN HO124) (Kd.R_base ho0) hb)
         replace BK111:=aE (bB BK111 hb)
         replace BK112:=aE (bB BK112 hb)
         replace BK118:=aE (bB BK118 hb)
         replace HB:=aE (aD (aX HB) hb)
         (try clear hb)
         (try clear hk)
         (try clear ho0)
         obtain ⟨Ao64,co64,eo64⟩:=Kd.R_slice HO121.out
         (first|subst eo64|(injection eo64 with f1_ f2_ f3_;have f4_:=f1_.symm;have f5_:=f3_.symm;clear f1_ f2_ f3_;subst f4_;subst f5_))
         obtain ⟨Ao65,co65,eo65⟩:=Kd.R_slice HO133.out
         (first|subst eo65|(injection eo65 with f1_ f2_ f3_;have f4_:=f1_.symm;have f5_:=f3_.symm;clear f1_ f2_ f3_;subst f4_;subst f5_))
         refine hK.out _ _ ⟨aW BK111 0,aW BK111 1,aW BK112 0,aW BK112 1,aW BK118 0,aW BK118 1⟩ (fun hHeld=>?_)
         clear hK K
         refine gA ?_
         refine dQ (i:=32) (N:=some 70) (bm 49 8589934591) rfl rfl (bJ HT_.out (by kernel_rfl)) (by decide) (fun K hK=>?_)
         refine cN Tryz.func18 #[.slice Ao64 t119.length co64,.slice Ao65 t131.length co65] ?_
         with_reducible refine (pA k _ _ t119 _ _ t131 true _ ?side1 ?side2 ?side3 ?side4 A48.out).mono ?_
         (case side1=>exact kJ (Kd.R_reads' HO121.out).2.2)
         (case side2=>exact (Kd.R_reads' HO121.out).2.1)
         (case side3=>exact kJ (Kd.R_reads' HO133.out).2.2)
         (case side4=>exact (Kd.R_reads' HO133.out).2.1)
         rintro e w' ⟨rfl,⟨nd,rfl⟩⟩
         refine ⟨_,rfl,?_⟩
         refine hK.out _ _ ⟨aW BK111 0,aW BK111 1,aW BK112 0,aW BK112 1,aW BK118 0,aW BK118 1⟩ (fun hHeld=>?_)
         clear hK K
         refine gA ?_
         refine bU ((0,33,71,17179869183)::(0,34,72,34359738367)::(0,35,73,68719476735)::(0,36,74,137438953471)::(0,37,75,274877906943)::[]) ?_
         iterate 5 (first|refine jT HT_ ?_)
         refine aU ?_
         refine dQ (i:=38) (N:=some 76) (bm 49 549755813887) rfl rfl (bJ HT_.out (by kernel_rfl)) (by decide) (fun K hK=>?_)
         refine cN Tryz.func20 #[.slice Ao13 t102.length co13] ?_
         with_reducible refine (pK k _ _ t102 t135 _ ?side1 ?side2 A50.out).mono ?_
         (case side1=>exact kJ (Kd.R_reads' HO104.out).2.2)
         (case side2=>exact (Kd.R_reads' HO104.out).2.1)
         rintro e w66 ⟨v136,rfl,ho0,hb⟩
         refine ⟨_,rfl,?_⟩
         replace HO104:=aE (Kd.R_below (bN HO104) hb)
         replace HO115:=aE (Kd.R_below (bN HO115) hb)
         have HO137:=aE (Kd.R_lower (Kd.R_new' (Kd.R_new' (Kd.R_new' ho0 (Kd.R_lt (bN HO121))) (Kd.R_lt (bN HO124))) (Kd.R_lt (bN HO133))) (aT (aX HB)))
         replace HO121:=aE (Kd.R_elder' (bN HO121) (Kd.R_base ho0) hb)
         replace HO124:=aE (Kd.R_elder' (bN HO124) (Kd.R_base ho0) hb)
         replace HO133:=aE (Kd.R_elder' (bN HO133) (Kd.R_base ho0) hb)
         replace BK111:=aE (bB BK111 hb)
         replace BK112:=aE (bB BK112 hb)
         replace BK118:=aE (bB BK118 hb)
         replace HB:=aE (aD (aX HB) hb)
         (try clear hb)
         (try clear hk)
         (try clear ho0)
         obtain ⟨Ao67,co67,eo67⟩:=Kd.R_slice HO124.out
         (first|subst eo67|(injection eo67 with f1_ f2_ f3_;have f4_:=f1_.symm;have f5_:=f3_.symm;clear f1_ f2_ f3_;subst f4_;subst f5_))
         obtain ⟨Ao68,co68,eo68⟩:=Kd.R_slice HO137.out
         (first|subst eo68|(injection eo68 with f1_ f2_ f3_;have f4_:=f1_.symm;have f5_:=f3_.symm;clear f1_ f2_ f3_;subst f4_;subst f5_))
         refine hK.out _ _ ⟨aW BK111 0,aW BK111 1,aW BK112 0,aW BK112 1,aW BK118 0,aW BK118 1⟩ (fun hHeld=>?_)
         clear hK K
         refine gA ?_
         refine dQ (i:=39) (N:=some 77) (bm 49 1099511627775) rfl rfl (bJ HT_.out (by kernel_rfl)) (by decide) (fun K hK=>?_)
         refine cN Tryz.func18 #[.slice Ao67 t122.length co67,.slice Ao68 t135.length co68] ?_
         with_reducible refine (pA k _ _ t122 _ _ t135 true _ ?side1 ?side2 ?side3 ?side4 A51.out).mono ?_
         (case side1=>exact kJ (Kd.R_reads' HO124.out).2.2)
         (case side2=>exact (Kd.R_reads' HO124.out).2.1)
         (case side3=>exact kJ (Kd.R_reads' HO137.out).2.2)
         (case side4=>exact (Kd.R_reads' HO137.out).2.1)
         rintro e w' ⟨rfl,⟨nd,rfl⟩⟩
         refine ⟨_,rfl,?_⟩
         refine hK.out _ _ ⟨aW BK111 0,aW BK111 1,aW BK112 0,aW BK112 1,aW BK118 0,aW BK118 1⟩ (fun hHeld=>?_)
         clear hK K
         refine gA ?_
         refine bU ((0,40,78,2199023255551)::(0,41,79,4398046511103)::(0,42,80,8796093022207)::(0,43,81,17592186044415)::(0,45,83,52776558133247)::[]) ?_
         iterate 5 (first|refine jT HT_ ?_)
         refine aU ?_
         refine dQ (i:=44) (N:=some 82) (bm 49 70368744177663) rfl rfl (bJ HT_.out (by kernel_rfl)) (by decide) (fun K hK=>?_)
         refine cN Tryz.func21 #[.slice Ao13 t102.length co13] ?_
         with_reducible refine (tG k _ _ t102 t139 t140 _ ?side1 ?side2 A53.out).mono ?_
         (case side1=>exact kJ (Kd.R_reads' HO104.out).2.2)
         (case side2=>exact (Kd.R_reads' HO104.out).2.1)
         rintro e w69 ⟨rfl,hb⟩
         refine ⟨_,rfl,?_⟩
         replace HO104:=aE (Kd.R_below (bN HO104) hb)
         replace HO115:=aE (Kd.R_below (bN HO115) hb)
         replace HO121:=aE (Kd.R_below (bN HO121) hb)
         replace HO124:=aE (Kd.R_below (bN HO124) hb)
         replace HO133:=aE (Kd.R_below (bN HO133) hb)
         replace HO137:=aE (Kd.R_below (bN HO137) hb)
         replace BK111:=aE (bB BK111 hb)
         replace BK112:=aE (bB BK112 hb)
         replace BK118:=aE (bB BK118 hb)
         replace HB:=aE (aD (aX HB) hb)
         (try clear hb)
         (try clear hk)
         refine hK.out _ _ ⟨aW BK111 0,aW BK111 1,aW BK112 0,aW BK112 1,aW BK118 0,aW BK118 1⟩ (fun hHeld=>?_)
         clear hK K
         refine gA ?_
         refine dQ (i:=46) (N:=some 84) (bm 49 140737488355327) rfl rfl (bJ HT_.out (by kernel_rfl)) (by decide) (fun K hK=>?_)
         refine cN Tryz.func22 #[.slice Ao13 t102.length co13] ?_
         with_reducible refine (tK k _ _ t102 t141 t142 _ ?side1 ?side2 A54.out).mono ?_
         (case side1=>exact kJ (Kd.R_reads' HO104.out).2.2)
         (case side2=>exact (Kd.R_reads' HO104.out).2.1)
         rintro e w70 ⟨rfl,hb⟩
         refine ⟨_,rfl,?_⟩
         replace HO104:=aE (Kd.R_below (bN HO104) hb)
         replace HO115:=aE (Kd.R_below (bN HO115) hb)
         replace HO121:=aE (Kd.R_below (bN HO121) hb)
         replace HO124:=aE (Kd.R_below (bN HO124) hb)
         replace HO133:=aE (Kd.R_below (bN HO133) hb)
         replace HO137:=aE (Kd.R_below (bN HO137) hb)
         replace BK111:=aE (bB BK111 hb)
         replace BK112:=aE (bB BK112 hb)
         replace BK118:=aE (bB BK118 hb)
         replace HB:=aE (aD (aX HB) hb)
         (try clear hb)
         (try clear hk)
         refine hK.out _ _ ⟨aW BK111 0,aW BK111 1,aW BK112 0,aW BK112 1,aW BK118 0,aW BK118 1⟩ (fun hHeld=>?_)
         clear hK K
         refine gA ?_
         refine bU ((0,47,85,281474976710655)::(0,48,86,562949953421311)::[]) ?_
         iterate 2 (first|refine jT HT_ ?_)
         refine aU ?_
         refine eN (cK HT_.out (by kernel_rfl)) ?_
         try go_wp2
         go_meet
         case rel=>exact ⟨_,((!(t139==t141)||(!(t140==t142)))),aH,H',⟨by first|omega|exact Nat.le_refl _⟩,⟨by (with_reducible repeat (first|apply kD|apply kE|apply gU));exact Kd.R_mono HO104.out (fun _ hk=>⟨hk.1.1.1.2,⟨hk.1.1.2,hk.2⟩⟩)⟩,⟨by (with_reducible repeat (first|apply kD|apply kE|apply gU));exact Kd.R_mono HO121.out (fun _ hk=>hk.1.1.2)⟩,⟨by (with_reducible repeat (first|apply kD|apply kE|apply gU));exact Kd.R_mono HO124.out (fun _ hk=>hk.1.1.2)⟩,⟨fO BK111⟩,⟨fO BK112⟩,⟨fO BK118⟩,⟨aX HB⟩⟩
        ·replace c52:=Bool.eq_false_iff.mpr c52
         subst c52
         have H1:(cY k t102 t105 t106 t119 t122 true t107 t108 t109 t110)=some true:=by rw [if_neg (show ¬ (false=true) by decide)] at H;exact H
         exact absurd H1 (jM _ _ _ _ _ _ _ _ _ _)
       ·replace c49:=Bool.eq_false_iff.mpr c49
        subst c49
        have H1:(cY k t102 t105 t106 t119 t122 true t107 t108 t109 t110)=some true:=by rw [if_neg (show ¬ (false=true) by decide)] at H;exact H
        exact absurd H1 (jM _ _ _ _ _ _ _ _ _ _)
     ·exact absurd H (jM _ _ _ _ _ _ _ _ _ _)
    ·exact absurd H (jM _ _ _ _ _ _ _ _ _ _)
   ·exact absurd H (jM _ _ _ _ _ _ _ _ _ _)
  case rest =>
   clear HC11
   try clear c3
   try clear c30
   try clear c30b0
   try clear c30b1
   obtain ⟨kq,x86_10,rfl,HA,HJ10,HO_3,HO_10,HO_11,BK111,BK112,BK118,HB⟩:=hcut
   cases kq with
   | zero=>exact absurd HA.out (by simp [cY])
   | succ kj10 =>
    have H:=HA.out
    clear HA
    simp only [cY] at H
    by_cases c106:x86_10=true
    ·subst c106
     rw [if_pos rfl] at H
     exact absurd H (by simp)
    ·replace c106 := Bool.eq_false_iff.mpr c106
     subst c106
     rw [if_neg (show ¬ (false=true) by decide)] at H
     replace H:=eM H
     obtain ⟨t143,A107,H⟩:=H
     replace H:=eM H
     obtain ⟨t144,A108,H⟩:=H
     replace H:=jE H
     rcases H with ⟨c109,H⟩|⟨c109,H⟩
     ·have c109b0 : (t143 == t144) = true := beq_iff_eq.mpr c109
      have c109b1:(t143 != t144)=false:=bne_eq_false_iff_eq.mpr c109
      clear c109
      replace H:=eM H
      obtain ⟨t145,A110,H⟩:=H
      by_cases c111:t145=true
      ·subst c111
       rw [if_pos rfl] at H
       have HC112:=aE H
       clear H
       try go_wp2
       replace HO_3:=aE (gU HO_3.out)
       replace HO_10:=aE (gU HO_10.out)
       replace HO_11:=aE (gU HO_11.out)
       replace BK111:=aE (aI BK111.out)
       replace BK112:=aE (aI BK112.out)
       replace BK118:=aE (aI BK118.out)
       replace HB:=aE (jK HB.out)
       refine dA (n:=7) (S:=fun w'=>w'.cell? ⟨gb111,0,none⟩=some (.int .i64 t107)∧w'.cell? ⟨gb111,1,none⟩=some (.int .i64 t108)∧w'.cell? ⟨gb112,0,none⟩=some (.int .i64 t109)∧w'.cell? ⟨gb112,1,none⟩=some (.int .i64 t110)) (ds:=[]) (bm 7 0) (by kernel_rfl) rfl rfl ⟨aW BK111 0,aW BK111 1,aW BK112 0,aW BK112 1⟩ (fun hHeld=>?_)
       generalize wc.drew=w113 at HO_3 HO_10 HO_11 BK111 BK112 BK118 HB hHeld ⊢
       refine qW (i:=0) (N:=some 87) (v:=?_) (a':=?_) (bm 7 1) rfl rfl (by kernel_rfl) (fun _ _ _ h=>h) (Or.inl ⟨by rfl,?_⟩) hHeld ?_ ?_
       rotate_left
       ·rintro w' ⟨s0,s1,s2,s3⟩
        go_simp
        with_reducible rfl
       rotate_left
       ·simp only [Act.put,List.setIfInBounds_toArray,List.set_cons_zero,List.set_cons_succ,cC,dW]
        rfl
       refine qW (i:=1) (N:=some 88) (v:=?_) (a':=?_) (bm 7 3) rfl rfl (by kernel_rfl) (fun _ _ _ h=>h) (Or.inl ⟨by rfl,?_⟩) hHeld ?_ ?_
       rotate_left
       ·rintro w' ⟨s0,s1,s2,s3⟩
        go_simp
        with_reducible rfl
       rotate_left
       ·simp only [Act.put,List.setIfInBounds_toArray,List.set_cons_zero,List.set_cons_succ,cC,dW]
        rfl
       refine qW (i:=3) (N:=some 90) (v:=?_) (a':=?_) (bm 7 11) rfl rfl (by kernel_rfl) (fun _ _ _ h=>h) (Or.inl ⟨by rfl,?_⟩) hHeld ?_ ?_
       rotate_left
       ·rintro w' ⟨s0,s1,s2,s3⟩
        go_simp
        with_reducible rfl
       rotate_left
       ·simp only [Act.put,List.setIfInBounds_toArray,List.set_cons_zero,List.set_cons_succ,cC,dW]
        rfl
       refine qW (i:=4) (N:=some 91) (v:=?_) (a':=?_) (bm 7 27) rfl rfl (by kernel_rfl) (fun _ _ _ h=>h) (Or.inl ⟨by rfl,?_⟩) hHeld ?_ ?_
       rotate_left
       ·rintro w' ⟨s0,s1,s2,s3⟩
        go_simp
        with_reducible rfl
       rotate_left
       ·simp only [Act.put,List.setIfInBounds_toArray,List.set_cons_zero,List.set_cons_succ,cC,dW]
        rfl
       refine dQ (i:=2) (N:=some 89) (bm 7 31) rfl rfl (by kernel_rfl) (by decide) (fun K hK=>?_)
       refine cN Tryz.func14 #[.agg #[.int .i64 t107,.int .i64 t108],.agg #[.int .i64 t109,.int .i64 t110]] ?_
       with_reducible refine (jL kj10 t107 t108 t109 t110 t143 _ A107.out).mono ?_
       rintro e w114 ⟨rfl,hb⟩
       refine ⟨_,rfl,?_⟩
       replace HO_3:=aE (Kd.R_below (bN HO_3) hb)
       replace HO_10:=aE (Kd.R_below (bN HO_10) hb)
       replace HO_11:=aE (Kd.R_below (bN HO_11) hb)
       replace BK111:=aE (bB BK111 hb)
       replace BK112:=aE (bB BK112 hb)
       replace BK118:=aE (bB BK118 hb)
       replace HB:=aE (aD (aX HB) hb)
       (try clear hb)
       (try clear hk)
       refine hK.out _ _ ⟨aW BK111 0,aW BK111 1,aW BK112 0,aW BK112 1⟩ (fun hHeld=>?_)
       clear hK K
       refine gA ?_
       refine dQ (i:=5) (N:=some 92) (bm 7 63) rfl rfl (by kernel_rfl) (by decide) (fun K hK=>?_)
       refine cN Tryz.func14 #[.agg #[.int .i64 t109,.int .i64 t110],.agg #[.int .i64 t107,.int .i64 t108]] ?_
       with_reducible refine (jL kj10 t109 t110 t107 t108 t144 _ A108.out).mono ?_
       rintro e w115 ⟨rfl,hb⟩
       refine ⟨_,rfl,?_⟩
       replace HO_3:=aE (Kd.R_below (bN HO_3) hb)
       replace HO_10:=aE (Kd.R_below (bN HO_10) hb)
       replace HO_11:=aE (Kd.R_below (bN HO_11) hb)
       replace BK111:=aE (bB BK111 hb)
       replace BK112:=aE (bB BK112 hb)
       replace BK118:=aE (bB BK118 hb)
       replace HB:=aE (aD (aX HB) hb)
       (try clear hb)
       (try clear hk)
       refine hK.out _ _ ⟨aW BK111 0,aW BK111 1,aW BK112 0,aW BK112 1⟩ (fun hHeld=>?_)
       clear hK K
       refine gA ?_
       refine uX (i:=6) (N:=some 93) (v:=?_) (a':=?_) (bm 7 127) rfl rfl (by kernel_rfl) (fun _ _ _ h=>h) (Or.inl ⟨by rfl,?_⟩) ?_ ?_
       rotate_left
       ·intro w'
        go_simp
        with_reducible rfl
       rotate_left
       ·simp only [Act.put,List.setIfInBounds_toArray,List.set_cons_zero,List.set_cons_succ,cC,dW]
        rfl
       refine eN (by kernel_rfl) ?_
       go_upto_region 17 with (first|((with_reducible refine aJ (f:=23) rfl ?_);refine aV (some 95) Tryz.func23 #[.slice Ao13 t102.length co13] ?_;(with_reducible refine (cB kj10 _ _ t102 true _ ?side1 ?side2 A110.out).mono ?_);(case side1=>exact kJ (Kd.R_reads' HO_3.out).2.2);(case side2=>exact (Kd.R_reads' HO_3.out).2.1);rintro e w116 ⟨rfl,hb⟩;refine ⟨_,rfl,?_⟩;replace HO_3:=aE (Kd.R_below (bN HO_3) hb);replace HO_10:=aE (Kd.R_below (bN HO_10) hb);replace HO_11:=aE (Kd.R_below (bN HO_11) hb);replace BK111:=aE (bB BK111 hb);replace BK112:=aE (bB BK112 hb);replace BK118:=aE (bB BK118 hb);replace HB:=aE (aD (aX HB) hb);(try clear hb);(try clear hk)))
       (try simp only [Act.put,List.setIfInBounds_toArray,List.set_cons_zero,List.set_cons_succ])
       go_cut [142] (fun v142 wc=>∃ (kq:Nat) (x142_111:Bool),v142=.bool x142_111∧Aside0 (fQ kq t102 t105 t106 (t102.length:Int) x142_111=some true)∧Aside0 (kq≤kj10)∧Aside0 (Kd.R jW 28 wc w.heap.size (fun k_=>k_≠gb111∧k_≠gb112∧k_≠gb118) (.slice Ao13 t102.length co13) t102)∧Aside0 (wc.heap[gb111]? = some (.cells #[.int .i64 t107,.int .i64 t108] 28 (0,0)))∧Aside0 (wc.heap[gb112]? = some (.cells #[.int .i64 t109,.int .i64 t110] 28 (0,0)))∧Aside0 (wc.heap[gb118]? = some (.cells #[.int .i64 t116,.int .i64 t117] 28 (0,0)))∧Aside0 (Below w.heap.size w wc))
       case first =>
        have H:=HC112.out
        clear HC112
        replace H:=jE H
        rcases H with ⟨c117,H⟩|⟨c117,H⟩
        ·have c117b0:((t119.length:Int)==(wrap64 (Int.tdiv (wrap64 ((wrap64 ((t102.length:Int)*(wrap64 ((t102.length:Int)-1))))*(wrap64 ((t102.length:Int)-2)))) 6)))=true:=beq_iff_eq.mpr c117
         have c117b1:((t119.length:Int) != (wrap64 (Int.tdiv (wrap64 ((wrap64 ((t102.length:Int)*(wrap64 ((t102.length:Int)-1))))*(wrap64 ((t102.length:Int)-2)))) 6)))=false:=bne_eq_false_iff_eq.mpr c117
         clear c117
         (first|rw [c117b0]|(simp only [cC,dW];rw [c117b0])|skip)
         obtain ⟨c118,H⟩:=gQ H
         have c118b0:=decide_eq_true c118
         have c118b1:decide (0<t119.length)=true:=decide_eq_true (by omega)
         clear c118
         replace H:=jE H
         rcases H with ⟨c119,H⟩|⟨c119,H⟩
         ·exact absurd H (mV _ _ _ _ _)
         ·have c119b0:=decide_eq_false c119
          clear c119
          replace H:=jE H
          rcases H with ⟨c122,H⟩|⟨c122,H⟩
          ·have c122b0:((t122.length:Int)==3)=true:=beq_iff_eq.mpr c122
           have c122b1:((t122.length:Int) != 3)=false:=bne_eq_false_iff_eq.mpr c122
           clear c122
           replace H:=eM H
           obtain ⟨t147,A123,H⟩:=H
           obtain ⟨ji124,hji124⟩:∃ j_:Int,(wrap64 ((t119.length:Int)-1))=j_:=⟨_,rfl⟩
           replace H:(if 0≤(ji124) then (if (ji124)<(t119.length:Int) then (fQ kj10 t102 t105 t106 (t102.length:Int) (decide (t147<(rd t119 (ji124))))) else (none)) else (none))=some true:=by first|(rw [hji124] at H;exact H)|(simp only [hji124] at H ⊢;exact H)
           (try rw [hji124] at A123)
           have hji124w:(IntKind.i64.wrap ((t119.length:Int)-1))=ji124:=(cC _).trans hji124
           obtain ⟨c125b0,H⟩:=cV H
           obtain ⟨c126b0,H⟩:=cV H
           have H':=aE H
           clear H
           try go_wp2
           replace HO_3:=aE (gU HO_3.out)
           replace HO_10:=aE (gU HO_10.out)
           replace HO_11:=aE (gU HO_11.out)
           replace BK111:=aE (aI BK111.out)
           replace BK112:=aE (aI BK112.out)
           replace BK118:=aE (aI BK118.out)
           replace HB:=aE (jK HB.out)
           obtain ⟨Ao128,co128,eo128⟩:=Kd.R_slice HO_10.out
           (first|subst eo128|(injection eo128 with f1_ f2_ f3_;have f4_:=f1_.symm;have f5_:=f3_.symm;clear f1_ f2_ f3_;subst f4_;subst f5_))
           have p146:0≤(0:Int):=(by omega)
           have q146:0<(t119.length:Int):=bI
           obtain ⟨ad146,e146,hx146_0⟩:=Kd.at_int (Kd.R_reads' HO_10.out).2.2 0 p146 q146
           cases e146
           have qi146:(0<t119.length)=True:=eq_true (by omega)
           (try rw [show ((0:Int)).toNat=0 from rfl] at hx146_0)
           (try rw [Addr.add_zero'] at hx146_0)
           replace p146:=eq_true p146
           replace q146:=eq_true q146
           obtain ⟨Ao129,co129,eo129⟩:=Kd.R_slice HO_11.out
           (first|subst eo129|(injection eo129 with f1_ f2_ f3_;have f4_:=f1_.symm;have f5_:=f3_.symm;clear f1_ f2_ f3_;subst f4_;subst f5_))
           obtain ⟨p148,q148,ad148,e148,hx148_0⟩:=jP (Kd.at_int (Kd.R_reads' HO_10.out).2.2 (ji124))
           obtain rfl:ad146=ad148:=(by injection e148)
           refine dA (n:=33) (S:=fun w'=>w'.cell? ad146=some (.int .i64 (rd t119 0))∧w'.cell? (ad146.add ((ji124)).toNat)=some (.int .i64 (rd t119 (ji124)))) (ds:=[]) (bm 33 0) (by kernel_rfl) rfl rfl ⟨hx146_0,hx148_0⟩ (fun hHeld=>?_);refine bO zN yF (fun HT_ HW_=>?_)
           generalize w116.drew=w127 at HO_3 HO_10 HO_11 BK111 BK112 BK118 HB hx146_0 hx148_0 hHeld ⊢
           refine bU ((0,0,110,1)::(0,1,111,3)::(0,2,112,7)::(0,3,113,15)::(0,4,114,31)::(0,5,115,63)::(0,6,116,127)::(0,7,117,255)::(0,8,118,511)::(0,9,119,1023)::(0,10,120,2047)::(0,11,121,4095)::(0,12,122,8191)::(0,13,123,16383)::(2,14,124,32767)::(0,15,125,65535)::(0,16,126,131071)::(0,17,127,262143)::(0,18,128,524287)::(0,19,129,1048575)::(0,20,130,2097151)::(0,21,131,4194303)::(0,22,132,8388607)::(0,23,133,16777215)::(0,25,135,50331647)::(0,26,136,117440511)::(0,27,137,251658239)::(0,28,138,520093695)::(0,29,139,1056964607)::(2,30,140,2130706431)::[]) ?_
           iterate 30 (first|refine jT HT_ ?_|refine pZ HT_ HW_ hHeld ?_)
           refine aU ?_
           refine dQ (i:=24) (N:=some 134) (bm 33 2147483647) rfl rfl (bJ HT_.out (by kernel_rfl)) (by decide) (fun K hK=>?_)
           refine cN Tryz.func24 #[.slice Ao13 t102.length co13] ?_
           with_reducible refine (pD kj10 _ _ t102 t147 _ ?side1 ?side2 A123.out).mono ?_
           (case side1=>exact kJ (Kd.R_reads' HO_3.out).2.2)
           (case side2=>exact (Kd.R_reads' HO_3.out).2.1)
           rintro e w130 ⟨rfl,hb⟩
           have HS0_:=uV hb hHeld.1
           have HS1_:=uV hb hHeld.2
           refine ⟨_,rfl,?_⟩
           replace HO_3:=aE (Kd.R_below (bN HO_3) hb)
           replace HO_10:=aE (Kd.R_below (bN HO_10) hb)
           replace HO_11:=aE (Kd.R_below (bN HO_11) hb)
           replace BK111:=aE (bB BK111 hb)
           replace BK112:=aE (bB BK112 hb)
           replace BK118:=aE (bB BK118 hb)
           replace HB:=aE (aD (aX HB) hb)
           (try clear hb)
           (try clear hk)
           refine hK.out _ _ ⟨HS0_,HS1_⟩ (fun hHeld=>?_)
           clear hK K
           refine gA ?_
           refine bU ((0,31,141,4294967295)::(0,32,142,8589934591)::[]) ?_
           iterate 2 (first|refine jT HT_ ?_)
           refine aU ?_
           refine eN (cK HT_.out (by kernel_rfl)) ?_
           try go_wp2
           go_meet
           case rel=>exact ⟨_,(decide (t147<(rd t119 (ji124)))),(by first|rfl|(simp;done)|(simp only [← hji124] <;> (first|rfl|simp))|(simp [*];done)),H',⟨RK HJ10⟩,⟨bN HO_3⟩,⟨fO BK111⟩,⟨fO BK112⟩,⟨fO BK118⟩,⟨aX HB⟩⟩
          ·exact absurd H (mV _ _ _ _ _)
        ·exact absurd H (mV _ _ _ _ _)
       case rest =>
        clear HC112
        try clear c117
        try clear c117b0
        try clear c117b1
        try clear c118
        try clear c122
        try clear c122b0
        try clear c122b1
        try clear hx146_0
        try clear p146
        try clear q146
        obtain ⟨kq,x142_111,rfl,HA,HJ111,HO_3,BK111,BK112,BK118,HB⟩:=hcut
        cases kq with
        | zero=>exact absurd HA.out (by simp [fQ])
        | succ kj111 =>
         have H:=HA.out
         clear HA
         simp only [fQ] at H
         by_cases c136:x142_111=true
         ·subst c136
          rw [if_pos rfl] at H
          exact absurd H (by simp)
         ·replace c136:=Bool.eq_false_iff.mpr c136
          subst c136
          rw [if_neg (show ¬ (false=true) by decide)] at H
          replace H:=eM H
          obtain ⟨⟨t149,t150,t151⟩,A137,H⟩:=H
          try dsimp only at H
          have H':=aE H
          clear H
          go_wp2_with (first|((with_reducible refine aJ (f:=25) rfl ?_);refine aV (some 145) Tryz.func25 #[.slice Ao13 t102.length co13] ?_;(with_reducible refine (kV kj111 _ _ t102 t149 t150 t151 _ ?side1 ?side2 A137.out).mono ?_);(case side1=>exact kJ (Kd.R_reads' HO_3.out).2.2);(case side2=>exact (Kd.R_reads' HO_3.out).2.1);rintro e w138 ⟨rfl,hb⟩;refine ⟨_,rfl,?_⟩;replace HO_3:=aE (Kd.R_below (bN HO_3) hb);replace BK111:=aE (bB BK111 hb);replace BK112:=aE (bB BK112 hb);replace BK118:=aE (bB BK118 hb);replace HB:=aE (aD (aX HB) hb);(try clear hb);(try clear hk))|((with_reducible refine aN (N:=13) rfl ?_);(try (refine fS (by rfl) ?_;dsimp only));refine bV (N:=13) #[.int .i64 0,.string (⟨#[]⟩:ByteArray)] 41 ?_;intro gb152 hg w139 hbox hb;replace HO_3:=aE (Kd.R_below (bN HO_3) hb);have BK152:=aE (hbox);have GW152:=aE ((dX HB hg));have GE152:=aE ((dX HB hg));replace HB:=aE (aD (aX HB) hb);have NB111_152:=aE ((iX BK111 hg));have NB152_111:=aE ((iY BK111 hg));replace BK111:=aE (bB BK111 hb);have NB112_152:=aE ((iX BK112 hg));have NB152_112:=aE ((iY BK112 hg));replace BK112:=aE (bB BK112 hb);have NB118_152:=aE ((iX BK118 hg));have NB152_118:=aE ((iY BK118 hg));replace BK118:=aE (bB BK118 hb);clear hb hbox hg;have hnb140:=NB152_111.out;have hnc140:=NB111_152.out;have hnb141:=NB152_112.out;have hnc141:=NB112_152.out;have hnb142:=NB152_118.out;have hnc142:=NB118_152.out;have hcz143_0:=aW BK152 0;have hcz143_1:=aW BK152 1;have hfz143_0:=aA BK152.out 0;have hfz143_1:=aA BK152.out 1))
          go_loopg [15] kj111 (fun kq v15 w'=>∃ (x15_3:Int),v15=.int .i64 x15_3∧Aside0 (iL kq t102 t105 t106 (t102.length:Int) x15_3 t149 t150=some true)∧Aside0 (kq≤kj111)∧Aside0 (Kd.R jW 28 w' w.heap.size (fun k_=>k_≠gb111∧k_≠gb112∧k_≠gb118) (.slice Ao13 t102.length co13) t102)∧Aside0 (w'.heap[gb111]? = some (.cells #[.int .i64 t107,.int .i64 t108] 28 (0,0)))∧Aside0 (w'.heap[gb112]? = some (.cells #[.int .i64 t109,.int .i64 t110] 28 (0,0)))∧Aside0 (w'.heap[gb118]? = some (.cells #[.int .i64 t116,.int .i64 t117] 28 (0,0)))∧Aside0 (w'.heap[gb152]? = some (.cells #[.int .i64 t149,.string t150] 41 (0,0)))∧Aside0 (Below w.heap.size w w'))
          case atStart=>exact ⟨(0),aH,H',⟨Nat.le_refl _⟩,⟨by (with_reducible repeat (first|apply kD|apply kE|apply gU));exact Kd.R_mono (Kd.R_far (p:=⟨gb152,1,none⟩) (Kd.R_far (p:=⟨gb152,0,none⟩) (Kd.R_types HO_3.out BK152.out (by decide)) (fun _ hk=>hk.2) (.int .i64 t149)) (fun _ hk=>hk.2) (.string t150)) (fun _ hk=>⟨hk.1.1,⟨hk.1.2.1,hk.1.2.2⟩⟩)⟩,⟨jR BK111⟩,⟨jR BK112⟩,⟨jR BK118⟩,⟨jR BK152⟩,⟨aX HB⟩⟩
          case round =>
           clear H'
           try clear c117
           try clear c117b0
           try clear c117b1
           try clear c118
           try clear c122
           try clear c122b0
           try clear c122b1
           try clear c136
           try clear hcz143_0
           try clear hcz143_1
           try clear hfz143_0
           try clear hfz143_1
           try clear hx146_0
           try clear p146
           try clear q146
           obtain ⟨x15_3,rfl,HA,HK3,HO_3,BK111,BK112,BK118,BK152,HB⟩:=hrel
           cases gk with
           | zero=>exact absurd HA.out (by simp [iL])
           | succ k3 =>
            have H:=HA.out
            clear HA
            simp only [iL] at H
            replace H:=eV H
            rcases H with ⟨c144b0,H⟩|⟨c144b0,H⟩
            ·obtain ⟨c145b0,H⟩:=cV H
             obtain ⟨c146b0,H⟩:=cV H
             replace H:=eM H
             obtain ⟨t156,A147,H⟩:=H
             replace H:=eM H
             obtain ⟨t157,A148,H⟩:=H
             replace H:=jE H
             rcases H with ⟨c149,H⟩|⟨c149,H⟩
             ·have c149b0:(t156==t157)=true:=c149
              clear c149
              exact absurd H (by simp)
             ·have c149b0:(t156==t157)=false:=by simpa using c149
              clear c149
              have H':=aE H
              clear H
              try go_wp2
              replace HO_3:=aE (gU HO_3.out)
              replace BK111:=aE (aI BK111.out)
              replace BK112:=aE (aI BK112.out)
              replace BK118:=aE (aI BK118.out)
              replace BK152:=aE (aI BK152.out)
              replace HB:=aE (jK HB.out)
              obtain ⟨p155,q155,ad155,e155,hx155_0,hx155_1⟩:=jP (bW (Kd.R_reads' HO_3.out).2.2 x15_3)
              cases e155
              refine dA (n:=10) (S:=fun w'=>w'.cell? ⟨gb152,0,none⟩=some (.int .i64 t149)∧w'.cell? ⟨gb152,1,none⟩=some (.string t150)∧w'.cell? (ad155.add ((x15_3).toNat*2))=some (.int .i64 ((aC t102 x15_3).f0))∧w'.cell? ⟨(ad155.add ((x15_3).toNat*2)).block,(ad155.add ((x15_3).toNat*2)).off+1,none⟩=some (.int .i64 ((aC t102 x15_3).f1))) (ds:=[]) (bm 10 0) (by kernel_rfl) rfl rfl ⟨aW BK152 0,aW BK152 1,hx155_0,hx155_1⟩ (fun hHeld=>?_);refine bO zO yG (fun HT_ HW_=>?_)
              generalize wr.drew=w153 at HO_3 BK111 BK112 BK118 BK152 HB hx155_0 hx155_1 hHeld ⊢
              refine bU ((0,0,153,1)::(0,1,154,3)::(0,2,155,7)::(0,3,156,15)::(0,7,160,143)::(2,4,157,159)::(2,6,159,223)::[]) ?_
              iterate 7 (first|refine jT HT_ ?_|refine pZ HT_ HW_ hHeld ?_)
              refine aU ?_
              refine dQ (i:=5) (N:=some 158) (bm 10 255) rfl rfl (bJ HT_.out (by kernel_rfl)) (by decide) (fun K hK=>?_)
              refine cN Tryz.func16 #[.slice (some ad155) t102.length co13,.agg #[.int .i64 ((aC t102 x15_3).f0),.int .i64 ((aC t102 x15_3).f1)]] ?_
              with_reducible refine (mK k3 _ _ t102 ((aC t102 x15_3).f0) ((aC t102 x15_3).f1) t156 _ ?side1 ?side2 A147.out).mono ?_
              (case side1=>exact kJ (Kd.R_reads' HO_3.out).2.2)
              (case side2=>exact (Kd.R_reads' HO_3.out).2.1)
              rintro e w154 ⟨rfl,hb⟩
              have HS2_:=uV hb hHeld.2.2.1
              have HS3_:=uV hb hHeld.2.2.2
              refine ⟨_,rfl,?_⟩
              replace HO_3:=aE (Kd.R_below (bN HO_3) hb)
              replace BK111:=aE (bB BK111 hb)
              replace BK112:=aE (bB BK112 hb)
              replace BK118:=aE (bB BK118 hb)
              replace BK152:=aE (bB BK152 hb)
              replace HB:=aE (aD (aX HB) hb)
              (try clear hb)
              (try clear hk)
              refine hK.out _ _ ⟨aW BK152 0,aW BK152 1,HS2_,HS3_⟩ (fun hHeld=>?_)
              clear hK K
              refine gA ?_
              refine dQ (i:=8) (N:=some 161) (bm 10 511) rfl rfl (bJ HT_.out (by kernel_rfl)) (by decide) (fun K hK=>?_)
              refine cN Tryz.func26 #[.agg #[.int .i64 t149,.string t150],.int .i64 x15_3] ?_
              with_reducible refine (vN k3 t149 t150 x15_3 t157 _ A148.out).mono ?_
              rintro e w155 ⟨rfl,hb⟩
              have HS2_:=uV hb hHeld.2.2.1
              have HS3_:=uV hb hHeld.2.2.2
              refine ⟨_,rfl,?_⟩
              replace HO_3:=aE (Kd.R_below (bN HO_3) hb)
              replace BK111:=aE (bB BK111 hb)
              replace BK112:=aE (bB BK112 hb)
              replace BK118:=aE (bB BK118 hb)
              replace BK152:=aE (bB BK152 hb)
              replace HB:=aE (aD (aX HB) hb)
              (try clear hb)
              (try clear hk)
              refine hK.out _ _ ⟨aW BK152 0,aW BK152 1,HS2_,HS3_⟩ (fun hHeld=>?_)
              clear hK K
              refine gA ?_
              refine bU ((0,9,162,1023)::[]) ?_
              iterate 1 (first|refine jT HT_ ?_)
              refine aU ?_
              refine eN (cK HT_.out (by kernel_rfl)) ?_
              try go_wp2
              go_roundg k3
              case measure=>have:=HJ10.out;have:=HJ111.out;have:=HK3.out;omega
              case rel=>exact ⟨(wrap64 (x15_3+1)),aH,H',⟨by have:=HJ10.out;have:=HJ111.out;have:=HK3.out;omega⟩,⟨bN HO_3⟩,⟨fO BK111⟩,⟨fO BK112⟩,⟨fO BK118⟩,⟨fO BK152⟩,⟨aX HB⟩⟩
            ·replace H:=DB H
             obtain ⟨t153,A1560,H⟩:=H
             have A156:=aE A1560
             clear A1560
             replace H:=jE H
             rcases H with ⟨c157,H⟩|⟨c157,H⟩
             ·have c157b0:((wrap64 ((wrap64 ((wrap64 (2*t105))+t106))-2))==t153)=true:=beq_iff_eq.mpr c157
              have c157b1:((wrap64 ((wrap64 ((wrap64 (2*t105))+t106))-2)) != t153)=false:=bne_eq_false_iff_eq.mpr c157
              clear c157
              replace H:=eM H
              obtain ⟨t154,A158,H⟩:=H
              have hz_:(decide (t106 ≥ t154))=true:=Option.some.inj H
              clear H
              go_wp2_with (first|((with_reducible refine aJ (f:=24) rfl ?_);refine aV (some 169) Tryz.func24 #[.slice Ao13 t102.length co13] ?_;(with_reducible refine (pD k3 _ _ t102 t153 _ ?side1 ?side2 A156.out).mono ?_);(case side1=>exact kJ (Kd.R_reads' HO_3.out).2.2);(case side2=>exact (Kd.R_reads' HO_3.out).2.1);rintro e w159 ⟨rfl,hb⟩;refine ⟨_,rfl,?_⟩;replace HO_3:=aE (Kd.R_below (bN HO_3) hb);replace BK111:=aE (bB BK111 hb);replace BK112:=aE (bB BK112 hb);replace BK118:=aE (bB BK118 hb);replace BK152:=aE (bB BK152 hb);replace HB:=aE (aD (aX HB) hb);(try clear hb);(try clear hk);have hnb160:=NB152_111.out;have hnc160:=NB111_152.out;have hnb161:=NB152_112.out;have hnc161:=NB112_152.out;have hnb162:=NB152_118.out;have hnc162:=NB118_152.out;have hcz163_0:=aW BK152 0;have hcz163_1:=aW BK152 1;have hfz163_0:=aA BK152.out 0;have hfz163_1:=aA BK152.out 1)|(go_at_call 27;(with_reducible refine (wZ k3 t149 t150 t154 _ A158.out).mono ?_);rintro e w164 ⟨rfl,hb⟩;replace HO_3:=aE (Kd.R_below (bN HO_3) hb);replace BK111:=aE (bB BK111 hb);replace BK112:=aE (bB BK112 hb);replace BK118:=aE (bB BK118 hb);replace BK152:=aE (bB BK152 hb);replace HB:=aE (aD (aX HB) hb);(try clear hb);(try clear hk)))
              go_ret
              exact ⟨bP,aX HB⟩
             ·have c157b0:((wrap64 ((wrap64 ((wrap64 (2*t105))+t106))-2))==t153)=false:=beq_eq_false_iff_ne.mpr c157
              have c157b1:((wrap64 ((wrap64 ((wrap64 (2*t105))+t106))-2)) != t153)=true:=bne_iff_ne.mpr c157
              exact absurd H (by simp)
      ·replace c111:=Bool.eq_false_iff.mpr c111
       subst c111
       rw [if_neg (show ¬ (false=true) by decide)] at H
       replace H:=jE H
       rcases H with ⟨c166,H⟩|⟨c166,H⟩
       ·have c166b0:(t105==(-1))=true:=beq_iff_eq.mpr c166
        have c166b1:(t105 != (-1))=false:=bne_eq_false_iff_eq.mpr c166
        clear c166
        replace H:=jE H
        rcases H with ⟨c167,H⟩|⟨c167,H⟩
        ·have c167b0:(t106==(-1))=true:=beq_iff_eq.mpr c167
         have c167b1:(t106 != (-1))=false:=bne_eq_false_iff_eq.mpr c167
         clear c167
         have hz_:((t119.length:Int)==0)=true:=Option.some.inj H
         clear H
         try go_wp2
         replace HO_3:=aE (gU HO_3.out)
         replace HO_10:=aE (gU HO_10.out)
         replace HO_11:=aE (gU HO_11.out)
         replace BK111:=aE (aI BK111.out)
         replace BK112:=aE (aI BK112.out)
         replace BK118:=aE (aI BK118.out)
         replace HB:=aE (jK HB.out)
         refine dA (n:=7) (S:=fun w'=>w'.cell? ⟨gb111,0,none⟩=some (.int .i64 t107)∧w'.cell? ⟨gb111,1,none⟩=some (.int .i64 t108)∧w'.cell? ⟨gb112,0,none⟩=some (.int .i64 t109)∧w'.cell? ⟨gb112,1,none⟩=some (.int .i64 t110)) (ds:=[]) (bm 7 0) (by kernel_rfl) rfl rfl ⟨aW BK111 0,aW BK111 1,aW BK112 0,aW BK112 1⟩ (fun hHeld=>?_)
         generalize wc.drew=w168 at HO_3 HO_10 HO_11 BK111 BK112 BK118 HB hHeld ⊢
         refine qW (i:=0) (N:=some 87) (v:=?_) (a':=?_) (bm 7 1) rfl rfl (by kernel_rfl) (fun _ _ _ h=>h) (Or.inl ⟨by rfl,?_⟩) hHeld ?_ ?_
         rotate_left
         ·rintro w' ⟨s0,s1,s2,s3⟩
          go_simp
          with_reducible rfl
         rotate_left
         ·simp only [Act.put,List.setIfInBounds_toArray,List.set_cons_zero,List.set_cons_succ,cC,dW]
          rfl
         refine qW (i:=1) (N:=some 88) (v:=?_) (a':=?_) (bm 7 3) rfl rfl (by kernel_rfl) (fun _ _ _ h=>h) (Or.inl ⟨by rfl,?_⟩) hHeld ?_ ?_
         rotate_left
         ·rintro w' ⟨s0,s1,s2,s3⟩
          go_simp
          with_reducible rfl
         rotate_left
         ·simp only [Act.put,List.setIfInBounds_toArray,List.set_cons_zero,List.set_cons_succ,cC,dW]
          rfl
         refine qW (i:=3) (N:=some 90) (v:=?_) (a':=?_) (bm 7 11) rfl rfl (by kernel_rfl) (fun _ _ _ h=>h) (Or.inl ⟨by rfl,?_⟩) hHeld ?_ ?_
         rotate_left
         ·rintro w' ⟨s0,s1,s2,s3⟩
          go_simp
          with_reducible rfl
         rotate_left
         ·simp only [Act.put,List.setIfInBounds_toArray,List.set_cons_zero,List.set_cons_succ,cC,dW]
          rfl
         refine qW (i:=4) (N:=some 91) (v:=?_) (a':=?_) (bm 7 27) rfl rfl (by kernel_rfl) (fun _ _ _ h=>h) (Or.inl ⟨by rfl,?_⟩) hHeld ?_ ?_
         rotate_left
         ·rintro w' ⟨s0,s1,s2,s3⟩
          go_simp
          with_reducible rfl
         rotate_left
         ·simp only [Act.put,List.setIfInBounds_toArray,List.set_cons_zero,List.set_cons_succ,cC,dW]
          rfl
         refine dQ (i:=2) (N:=some 89) (bm 7 31) rfl rfl (by kernel_rfl) (by decide) (fun K hK=>?_)
         refine cN Tryz.func14 #[.agg #[.int .i64 t107,.int .i64 t108],.agg #[.int .i64 t109,.int .i64 t110]] ?_
         with_reducible refine (jL kj10 t107 t108 t109 t110 t143 _ A107.out).mono ?_
         rintro e w169 ⟨rfl,hb⟩
         refine ⟨_,rfl,?_⟩
         replace HO_3:=aE (Kd.R_below (bN HO_3) hb)
         replace HO_10:=aE (Kd.R_below (bN HO_10) hb)
         replace HO_11:=aE (Kd.R_below (bN HO_11) hb)
         replace BK111:=aE (bB BK111 hb)
         replace BK112:=aE (bB BK112 hb)
         replace BK118:=aE (bB BK118 hb)
         replace HB:=aE (aD (aX HB) hb)
         (try clear hb)
         (try clear hk)
         refine hK.out _ _ ⟨aW BK111 0,aW BK111 1,aW BK112 0,aW BK112 1⟩ (fun hHeld=>?_)
         clear hK K
         refine gA ?_
         refine dQ (i:=5) (N:=some 92) (bm 7 63) rfl rfl (by kernel_rfl) (by decide) (fun K hK=>?_)
         refine cN Tryz.func14 #[.agg #[.int .i64 t109,.int .i64 t110],.agg #[.int .i64 t107,.int .i64 t108]] ?_
         with_reducible refine (jL kj10 t109 t110 t107 t108 t144 _ A108.out).mono ?_
         rintro e w170 ⟨rfl,hb⟩
         refine ⟨_,rfl,?_⟩
         replace HO_3:=aE (Kd.R_below (bN HO_3) hb)
         replace HO_10:=aE (Kd.R_below (bN HO_10) hb)
         replace HO_11:=aE (Kd.R_below (bN HO_11) hb)
         replace BK111:=aE (bB BK111 hb)
         replace BK112:=aE (bB BK112 hb)
         replace BK118:=aE (bB BK118 hb)
         replace HB:=aE (aD (aX HB) hb)
         (try clear hb)
         (try clear hk)
         refine hK.out _ _ ⟨aW BK111 0,aW BK111 1,aW BK112 0,aW BK112 1⟩ (fun hHeld=>?_)
         clear hK K
         refine gA ?_
         refine uX (i:=6) (N:=some 93) (v:=?_) (a':=?_) (bm 7 127) rfl rfl (by kernel_rfl) (fun _ _ _ h=>h) (Or.inl ⟨by rfl,?_⟩) ?_ ?_
         rotate_left
         ·intro w'
          go_simp
          with_reducible rfl
         rotate_left
         ·simp only [Act.put,List.setIfInBounds_toArray,List.set_cons_zero,List.set_cons_succ,cC,dW]
          rfl
         refine eN (by kernel_rfl) ?_
         try go_wp2_with (first|((with_reducible refine aJ (f:=23) rfl ?_);refine aV (some 95) Tryz.func23 #[.slice Ao13 t102.length co13] ?_;(with_reducible refine (cB kj10 _ _ t102 false _ ?side1 ?side2 A110.out).mono ?_);(case side1=>exact kJ (Kd.R_reads' HO_3.out).2.2);(case side2=>exact (Kd.R_reads' HO_3.out).2.1);rintro e w171 ⟨rfl,hb⟩;refine ⟨_,rfl,?_⟩;replace HO_3:=aE (Kd.R_below (bN HO_3) hb);replace HO_10:=aE (Kd.R_below (bN HO_10) hb);replace HO_11:=aE (Kd.R_below (bN HO_11) hb);replace BK111:=aE (bB BK111 hb);replace BK112:=aE (bB BK112 hb);replace BK118:=aE (bB BK118 hb);replace HB:=aE (aD (aX HB) hb);(try clear hb);(try clear hk);obtain ⟨Ao172,co172,eo172⟩:=Kd.R_slice HO_10.out;subst eo172))
         go_ret
         exact ⟨bP,aX HB⟩
        ·have c167b0:(t106==(-1))=false:=beq_eq_false_iff_ne.mpr c167
         have c167b1:(t106 != (-1))=true:=bne_iff_ne.mpr c167
         exact absurd H (by simp)
       ·have c166b0:(t105==(-1))=false:=beq_eq_false_iff_ne.mpr c166
        have c166b1:(t105 != (-1))=true:=bne_iff_ne.mpr c166
        exact absurd H (by simp)
     ·have c109b0:(t143==t144)=false:=beq_eq_false_iff_ne.mpr c109
      have c109b1:(t143 != t144)=true:=bne_iff_ne.mpr c109
      exact absurd H (by simp)
def laws_FnGrid.Pure:Prop:=∀ (x0:List Int),(x0.length≤maxLen∧∀ y0 ∈ x0,(Lit.int .u8 y0).wf=true)→∃ k,laws_FnGrid.f k x0=some true
end Go.Proofs.YteaagaekdkolnaaGreat.P

namespace Go.Proofs.YteaagaekdkolnaaGreat.Com
open Go.RowKit Go.Proofs.YteaagaekdkolnaaGreatW.PrintWords
set_option linter.unusedSimpArgs false
set_option linter.unusedVariables false
theorem w64 {x:Int} (h0:-9223372036854775808≤x) (h1:x≤9223372036854775807):wrap64 x=x:=by unfold wrap64;omega
theorem FX {α:Type} (l:List α) (n:Nat) (d:α) (h:n<l.length):l.drop n=l.getD n d::l.drop (n+1):=by
 rw [List.drop_eq_getElem_cons h];simp [List.getD,List.getElem?_eq_getElem h]
theorem kH {α:Type} (l:List α) (n:Nat) (d:α) (h:n<l.length):l.getD n d ∈ l:=by
 simp [List.getD,List.getElem?_eq_getElem h]
theorem EA {α β:Type} (f:α→β) (l:List α) (n:Nat) (d:α) (e:β) (h:n<l.length):(l.map f).getD n e=f (l.getD n d):=by
 simp [List.getD,h]
theorem bG {α:Type} {c:Prop} [Decidable c] {g f:Nat→Option α} {r:α} (hc:c) (h:Ev g r):Ev (fun k=>if c then g k else f k) r:=by simpa only [if_pos hc] using h
theorem dK {α:Type} {c:Prop} [Decidable c] {g f:Nat→Option α} {r:α} (hc:¬ c) (h:Ev f r):Ev (fun k=>if c then g k else f k) r:=by simpa only [if_neg hc] using h
theorem sM {α:Type} {o:Option α} {r:α} (h:o=some r):Ev (fun _=>o) r:=⟨0,fun _ _=>h⟩
theorem YE {α:Type} {g:Nat→Option α} {r:α} (K:Nat) (h:∀ k,K≤k→g k=some r):Ev g r:=⟨K,h⟩
theorem iM {α β:Type} {o:Option α} {f:Nat→α→Option β} {a:α} {r:β} (h:o=some a) (k:Ev (fun n=>f n a) r):Ev (fun n=>o.bind (f n)) r:=Ev.bind ⟨0,fun _ _=>h⟩ k
end Go.Proofs.YteaagaekdkolnaaGreat.Com

namespace Go.Proofs.YteaagaekdkolnaaGreat.Pure
open Go.RowKit Go.Proofs.YteaagaekdkolnaaGreat.P Go.Proofs.YteaagaekdkolnaaGreatW.PrintWords Go.Proofs.YteaagaekdkolnaaGreatW.PrintLast Go.Proofs.YteaagaekdkolnaaGreat.Com
set_option linter.unusedSimpArgs false
set_option linter.unusedVariables false
def kX (n m:Int):Bool:=decide (-m≤n∧n≤m)
theorem jJ {n m:Int}:kX n m=true↔-m≤n∧n≤m:=by simp [kX]
theorem DD (a lo hi:Int):spec_l1In.f a lo hi=some (decide (lo≤a∧a≤hi)):=by
 unfold spec_l1In.f
 by_cases h:a ≥ lo
 ·rw [if_pos h];congr 1;simp only [decide_eq_decide];omega
 ·rw [if_neg h];congr 1;symm;simp only [decide_eq_false_iff_not];omega
theorem KA (a m:Int) (h0:0≤m) (h1:m≤4611686018427387904):spec_l1In.f a (wrap64 (-m)) m=some (kX a m):=by
 rw [w64 (by omega) (by omega),DD];rfl
theorem NL (n m:Int) (h0:0≤m) (h1:m≤4611686018427387904):DU n m = !kX n m:=by
 unfold DU impl_isFar.f kX
 rw [w64 (by omega) (by omega)]
 by_cases h:n < -m
 ·rw [if_pos h,Option.getD_some,Bool.eq_iff_iff];simp;omega
 ·rw [if_neg h,Option.getD_some,Bool.eq_iff_iff];simp;omega
theorem BE (x y m:Int) (h0:0≤m) (h1:m≤4611686018427387904):spec_l2Fits.f x y m=some (kX x m&&kX y m):=by
 unfold spec_l2Fits.f
 rw [KA x m h0 h1,KA y m h0 h1]
 simp only [Option.bind_some]
 cases kX x m <;> simp
theorem yI (m:Int) (l:List cF) (h0:0≤m) (h1:m≤4611686018427387904):impl_areNear.f m l=some (l.all fun p=>kX p.f0 m&&kX p.f1 m):=by
 unfold impl_areNear.f yV
 congr 1
 rw [List.not_any_eq_all_not]
 congr 1
 funext p
 rw [NL _ _ h0 h1,NL _ _ h0 h1]
 simp
end Go.Proofs.YteaagaekdkolnaaGreat.Pure

namespace Go.Proofs.YteaagaekdkolnaaGreat.Pure
open Go.RowKit Go.Proofs.YteaagaekdkolnaaGreatW.PrintWords Go.Proofs.YteaagaekdkolnaaGreatW.PrintLast Go.Proofs.YteaagaekdkolnaaGreat.Com
set_option linter.unusedSimpArgs false
set_option linter.unusedVariables false
theorem KB (x y:Int):wrap64 (wrap64 x+y)=wrap64 (x+y):=by unfold wrap64;omega
theorem KC (x y:Int):wrap64 (x+wrap64 y)=wrap64 (x+y):=by unfold wrap64;omega
theorem zQ (x y:Int):wrap64 (wrap64 x-y)=wrap64 (x-y):=by unfold wrap64;omega
theorem zR (x y:Int):wrap64 (x-wrap64 y)=wrap64 (x-y):=by unfold wrap64;omega
theorem UF (x:Int):∃ q:Int,wrap64 x=x+q*18446744073709551616:=⟨-((x+9223372036854775808) / 18446744073709551616),by unfold wrap64;omega⟩
theorem MJ (x q:Int):wrap64 (x+q*18446744073709551616)=wrap64 x:=by unfold wrap64;omega
theorem vO (x y:Int):wrap64 (wrap64 x*y)=wrap64 (x*y):=by
 obtain ⟨q,h⟩:=UF x
 rw [h,Int.add_mul,Int.mul_assoc q,Int.mul_comm 18446744073709551616 y,← Int.mul_assoc q,MJ]
theorem zS (x y:Int):wrap64 (x*wrap64 y)=wrap64 (x*y):=by rw [Int.mul_comm,vO,Int.mul_comm]
end Go.Proofs.YteaagaekdkolnaaGreat.Pure

namespace Go.Proofs.YteaagaekdkolnaaGreat.Pure
open Go.RowKit Go.Proofs.YteaagaekdkolnaaGreat.P Go.Proofs.YteaagaekdkolnaaGreatW.PrintWords Go.Proofs.YteaagaekdkolnaaGreatW.PrintLast Go.Proofs.YteaagaekdkolnaaGreat.Com
set_option linter.unusedSimpArgs false
set_option linter.unusedVariables false
def QO (x:Int):Int:=if 0<x then 1 else if x<0 then -1 else 0
theorem PB (x:Int):impl_signOf.f x=some (QO x):=by
 unfold impl_signOf.f cmp_Compare_int.f cmp_isNaN_int.f QO
 by_cases h1:0<x
 ·have h2:¬ x<0:=by omega
  simp [h1,h2]
 ·by_cases h2:x<0
  ·simp [h1,h2]
  ·simp [h1,h2]
def xM (a b c d e f:Int):Int:=wrap64 ((c-a)*(f-b)-(d-b)*(e-a))
theorem wF (a b c d e f:Int):spec_l2Area.f a b c d e f=some (xM a b c d e f):=by
 simp only [spec_l2Area.f,xM,zQ,zR,vO,zS]
theorem NM (a b c d e f:Int):impl_area.f a b c d e f=some (xM a b c d e f):=by
 simp only [impl_area.f,xM,zQ,zR,vO,zS]
theorem FY (a b c d e f:Int):impl_TurnOf.f a b c d e f=some (if ((kX a 1000&&kX b 1000)&&((kX c 1000&&kX d 1000)&&(kX e 1000&&kX f 1000)))=true then QO (xM a b c d e f) else 0):=by
 unfold impl_TurnOf.f
 rw [yI 1000 _ (by omega) (by omega),NM]
 simp only [Option.bind_some,PB,List.all_cons,List.all_nil,Bool.and_true]
 split <;> rfl
end Go.Proofs.YteaagaekdkolnaaGreat.Pure

namespace Go.Proofs.YteaagaekdkolnaaGreat.Com
open Go.RowKit Go.Proofs.YteaagaekdkolnaaGreatW.PrintWords
set_option linter.unusedSimpArgs false
set_option linter.unusedVariables false
variable {σ τ ρ υ : Type}
def foldT (T:σ→τ→(σ→ρ→Prop)→ρ→Prop) (C:σ→ρ→Prop):List τ→σ→ρ→Prop
 | [],s,r=>C s r
 | t::L,s,r=>T s t (foldT T C L) r
def uF (T:σ→τ→(σ→ρ→Prop)→ρ→Prop):Prop:=∀ s t (C D:σ→ρ→Prop) r,(∀ s' r',C s' r'→D s' r')→T s t C r→T s t D r
theorem yJ {T:σ→τ→(σ→ρ→Prop)→ρ→Prop} (hT:uF T) {C D:σ→ρ→Prop} (h:∀ s r,C s r→D s r) (L:List τ):∀ s r,foldT T C L s r→foldT T D L s r:=by
 induction L with
 | nil=>exact h
 | cons t L ih=>intro s r;exact hT s t _ _ r ih
def stepT (jN:σ→τ→σ ⊕ ρ):σ→τ→(σ→ρ→Prop)→ρ→Prop:=fun s t C r =>
 match jN s t with
 | .inl s'=>C s' r
 | .inr r'=>r=r'
theorem jY (jN:σ→τ→σ ⊕ ρ):uF (stepT jN):=by
 intro s t C D r h hT
 unfold stepT at *
 revert hT
 cases jN s t with
 | inl s'=>exact fun hT=>h _ _ hT
 | inr r'=>exact fun hT=>hT
def CC (T:τ→σ→υ→(σ→ρ→Prop)→ρ→Prop) (L:τ→List υ):σ→τ→(σ→ρ→Prop)→ρ→Prop:=fun s t C r=>foldT (T t) C (L t) s r
theorem tL {T:τ→σ→υ→(σ→ρ→Prop)→ρ→Prop} (hT:∀ t,uF (T t)) (L:τ→List υ):uF (CC T L):=fun s t C D r h hh=>yJ (hT t) h (L t) s r hh
theorem zT (T:σ→τ→(σ→ρ→Prop)→ρ→Prop) (C:σ→ρ→Prop) (A B:List τ):∀ s r,foldT T C (A++B) s r↔foldT T (foldT T C B) A s r:=by
 induction A with
 | nil=>intro s r;rfl
 | cons t A ih =>
  intro s r
  have e:foldT T C (A++B)=foldT T (foldT T C B) A:=by funext s r;exact propext (ih s r)
  show T s t (foldT T C (A++B)) r↔T s t (foldT T (foldT T C B) A) r
  rw [e]
theorem FZ (jN:σ→υ→σ ⊕ ρ) (L:τ→List υ) (C:σ→ρ→Prop) (J:List τ):foldT (CC (fun _=>stepT jN) L) C J=foldT (stepT jN) C (J.flatMap L):=by
 induction J with
 | nil=>rfl
 | cons t J ih =>
  funext s r
  rw [List.flatMap_cons]
  apply propext
  rw [zT]
  show foldT (stepT jN) (foldT (CC (fun _=>stepT jN) L) C J) (L t) s r↔_
  rw [ih]
def uG (jN:σ→τ→σ ⊕ ρ) (fin:σ→ρ):List τ→σ→ρ
 | [],s=>fin s
 | t::L,s=>match jN s t with
  | .inl s'=>uG jN fin L s'
  | .inr r=>r
theorem rM (jN:σ→τ→σ ⊕ ρ) (fin:σ→ρ) {C:σ→ρ→Prop} (hC:∀ s,C s (fin s)) (L:List τ):∀ s,foldT (stepT jN) C L s (uG jN fin L s):=by
 induction L with
 | nil=>exact hC
 | cons t L ih =>
  intro s
  show stepT jN s t _ _
  unfold stepT uG
  cases h:jN s t with
  | inl s'=>exact ih s'
  | inr r=>rfl
def gW (a:Int):Nat→List Int
 | 0=>[]
 | d+1=>a::gW (a+1) d
theorem KD {a x:Int} {d:Nat} (h:x ∈ gW a d):a≤x∧x<a+d:=by
 induction d generalizing a with
 | zero=>simp [gW] at h
 | succ d ih =>
  rcases List.mem_cons.1 h with rfl|h
  ·omega
  ·have:=ih h;omega
theorem gZ {l:Nat→σ→Int→Option ρ} (n:Int) {T:σ→Int→(σ→ρ→Prop)→ρ→Prop} (hT:uF T) {C:σ→ρ→Prop} (a0:Int)
  (hs:∀ s i,a0≤i→i<n→∀ r,T s i (fun s' r'=>Ev (fun k=>l k s' (i+1)) r') r→Ev (fun k=>l k s i) r)
  (he:∀ s r,C s r→Ev (fun k=>l k s n) r) (d:Nat):∀ (a:Int),a0≤a→a+d=n→∀ s r,foldT T C (gW a d) s r→Ev (fun k=>l k s a) r:=by
 induction d with
 | zero =>
  intro a h0 ha s r h
  obtain rfl:a=n:=by omega
  exact he s r h
 | succ d ih =>
  intro a h0 ha s r h
  exact hs s a h0 (by omega) r (hT s a _ _ r (fun s' r' h'=>ih (a+1) (by omega) (by omega) s' r' h') h)
theorem RV {l:Nat→σ→Int→Option ρ} (L:List τ) (z:τ) {T:σ→τ→(σ→ρ→Prop)→ρ→Prop} (hT:uF T) {C:σ→ρ→Prop}
  (hs:∀ s (i:Int),0≤i→i<L.length→∀ r,T s (L.getD i.toNat z) (fun s' r'=>Ev (fun k=>l k s' (i+1)) r') r→Ev (fun k=>l k s i) r)
  (he:∀ s r,C s r→Ev (fun k=>l k s (L.length:Int)) r) (d:Nat):∀ (a:Int),0≤a→a+d=L.length→∀ s r,foldT T C (L.drop a.toNat) s r→Ev (fun k=>l k s a) r:=by
 induction d with
 | zero =>
  intro a h0 ha s r h
  obtain rfl:a=L.length:=by omega
  rw [List.drop_of_length_le (by omega)] at h
  exact he s r h
 | succ d ih =>
  intro a h0 ha s r h
  rw [FX L a.toNat z (by omega)] at h
  refine hs s a h0 (by omega) r (hT s _ _ _ r (fun s' r' h'=>ih (a+1) (by omega) (by omega) s' r' ?_) h)
  rw [show (a+1).toNat=a.toNat+1 from by omega]
  exact h'
theorem listLoop0 {l:Nat→σ→Int→Option ρ} (L:List τ) (z:τ) {T:σ→τ→(σ→ρ→Prop)→ρ→Prop} (hT:uF T) {C:σ→ρ→Prop}
  (hs:∀ s (i:Int),0≤i→i<L.length→∀ r,T s (L.getD i.toNat z) (fun s' r'=>Ev (fun k=>l k s' (i+1)) r') r→Ev (fun k=>l k s i) r)
  (he:∀ s r,C s r→Ev (fun k=>l k s (L.length:Int)) r) (s:σ) (r:ρ) (h:foldT T C L s r):Ev (fun k=>l k s 0) r :=
 RV L z hT hs he L.length 0 (by omega) (by omega) s r (by simpa using h)
theorem PC (jN:σ→τ→σ ⊕ ρ) (f:υ→τ) (C:σ→ρ→Prop) (L:List υ):foldT (stepT jN) C (L.map f)=foldT (stepT fun s u=>jN s (f u)) C L:=by
 induction L with
 | nil=>rfl
 | cons t L ih=>funext s r;show stepT jN s (f t) (foldT (stepT jN) C (L.map f)) r=stepT (fun s u=>jN s (f u)) s t _ r;rw [ih];rfl
def mZ (p:τ→Bool):Unit→τ→(Unit→Bool→Prop)→Bool→Prop:=fun _ t C r=>if p t=true then C () r else r=false
theorem nM (p:τ→Bool):uF (mZ p):=by
 intro s t C D r h hT
 unfold mZ at *
 cases hp:p t with
 | true=>rw [hp] at hT;exact h () r (by simpa using hT)
 | false=>rw [hp] at hT;simpa using hT
theorem BF (p:τ→Bool) (C:Unit→Bool→Prop) (L:List τ):∀ r,foldT (mZ p) C L () r↔(if L.all p=true then C () r else r=false):=by
 induction L with
 | nil=>intro r;simp [foldT]
 | cons t L ih =>
  intro r
  show (if p t=true then foldT (mZ p) C L () r else r=false)↔_
  cases hp:p t with
  | true=>rw [if_pos rfl,ih];simp [hp]
  | false=>simp [hp]
theorem sN (p:τ→Bool) (L:List τ) (C:Unit→Bool→Prop) (hC:C () true):foldT (mZ p) C L () (L.all p):=by
 rw [BF]
 cases h:L.all p <;> simp [hC]
theorem PD (p:τ→υ→Bool) (q:τ→Bool) (L:τ→List υ) :
  (fun (s:Unit) (t:τ) (C:Unit→Bool→Prop) (r:Bool)=>if q t=true then foldT (mZ (p t)) C (L t) s r else r=false)=mZ (fun t=>q t&&(L t).all (p t)):=by
 funext s t C r
 apply propext
 show (if q t=true then foldT (mZ (p t)) C (L t) () r else r=false)↔(if (q t&&(L t).all (p t))=true then C () r else r=false)
 rw [BF]
 cases q t <;> cases (L t).all (p t) <;> simp
theorem iU {a x:Int} {d:Nat}:x ∈ gW a d↔a≤x∧x<a+d:=by
 induction d generalizing a with
 | zero=>simp only [gW,List.not_mem_nil,false_iff];omega
 | succ d ih=>simp only [gW,List.mem_cons,ih];omega
def cJ (n:Nat):List (Int×Int×Int):=(gW 0 n).flatMap fun i=>(gW (i+1) ((n:Int)-1-i).toNat).flatMap fun j=>(gW (j+1) ((n:Int)-1-j).toNat).map fun k=>(i,j,k)
theorem iW {n:Nat} {i j k:Int}:(i,j,k) ∈ cJ n↔0≤i∧i<j∧j<k∧k<n:=by
 simp only [cJ,List.mem_flatMap,List.mem_map,iU]
 constructor
 ·rintro ⟨i',hi,j',hj,k',hk,he⟩
  simp only [Prod.mk.injEq] at he
  omega
 ·rintro ⟨h0,h1,h2,h3⟩
  exact ⟨i,by omega,j,by omega,k,by omega,rfl⟩
theorem KE {l0:Nat→σ→Int→Option ρ} {l1:Nat→σ→Int→Int→Option ρ} {l2:Nat→σ→Int→Int→Int→Option ρ} (n:Nat) (jN:σ→(Int×Int×Int)→σ ⊕ ρ) (fin:σ→ρ)
  (h2:∀ s i j k,0≤i→i<j→j<k→k<(n:Int)→∀ r,stepT jN s (i,j,k) (fun s' r'=>Ev (fun q=>l2 q s' i j (k+1)) r') r→Ev (fun q=>l2 q s i j k) r)
  (h2e:∀ s i j,0≤i→i<j→j<(n:Int)→∀ r,Ev (fun q=>l1 q s i (j+1)) r→Ev (fun q=>l2 q s i j n) r)
  (h1:∀ s i j,0≤i→i<j→j<(n:Int)→∀ r,Ev (fun q=>l2 q s i j (j+1)) r→Ev (fun q=>l1 q s i j) r)
  (h1e:∀ s i,0≤i→i<(n:Int)→∀ r,Ev (fun q=>l0 q s (i+1)) r→Ev (fun q=>l1 q s i n) r)
  (h0:∀ s i,0≤i→i<(n:Int)→∀ r,Ev (fun q=>l1 q s i (i+1)) r→Ev (fun q=>l0 q s i) r)
  (h0e:∀ s,Ev (fun q=>l0 q s n) (fin s)) (s:σ):Ev (fun q=>l0 q s 0) (uG jN fin (cJ n) s):=by
 have hT:=rM jN fin (C:=fun s r=>r=fin s) (fun _=>rfl) (cJ n) s
 unfold cJ at hT
 rw [← FZ] at hT
 refine gZ (l:=l0) (n:Int) (tL (fun _=>jY jN) _) (C:=fun s r=>r=fin s) 0 ?_ (fun s r h=>by subst h;exact h0e s) n 0 (by omega) (by omega) s _ hT
 intro s i hi0 hin r hT
 refine h0 s i hi0 hin r ?_
 unfold CC at hT
 rw [← FZ] at hT
 refine gZ (l:=fun q s j=>l1 q s i j) (n:Int) (tL (fun _=>jY jN) _) (i+1) ?_ (fun s r h=>h1e s i hi0 hin r h) ((n:Int)-1-i).toNat (i+1) (by omega) (by omega) s r hT
 intro s j hj0 hjn r hT
 refine h1 s i j hi0 (by omega) hjn r ?_
 unfold CC at hT
 rw [PC] at hT
 refine gZ (l:=fun q s k=>l2 q s i j k) (n:Int) (jY _) (j+1) ?_ (fun s r h=>h2e s i j hi0 (by omega) hjn r h) ((n:Int)-1-j).toNat (j+1) (by omega) (by omega) s r hT
 intro s k hk0 hkn r hT
 exact h2 s i j k hi0 (by omega) (by omega) hkn r hT
theorem RW {l0:Nat→σ→Int→Option ρ} (L:List τ) (z:τ) (jN:σ→τ→σ ⊕ ρ) (fin:σ→ρ)
  (hs:∀ s (i:Int),0≤i→i<L.length→L.getD i.toNat z ∈ L→∀ r,stepT jN s (L.getD i.toNat z) (fun s' r'=>Ev (fun k=>l0 k s' (i+1)) r') r→Ev (fun k=>l0 k s i) r)
  (he:∀ s,Ev (fun k=>l0 k s (L.length:Int)) (fin s)) (s:σ):Ev (fun k=>l0 k s 0) (uG jN fin L s) :=
 listLoop0 L z (jY jN) (C:=fun s r=>r=fin s) (fun s i h0 h1 r h=>hs s i h0 h1 (kH L i.toNat z (by omega)) r h) (fun s r h=>by subst h;exact he s) s _ (rM jN fin (C:=fun s r=>r=fin s) (fun _=>rfl) L s)
theorem kB {jN:σ→τ→σ ⊕ ρ} {s:σ} {t:τ} {C:σ→ρ→Prop} {r:ρ} {s':σ} (h:stepT jN s t C r) (e:jN s t=.inl s'):C s' r:=by unfold stepT at h;rw [e] at h;exact h
theorem BG {jN:σ→τ→σ ⊕ ρ} {s:σ} {t:τ} {C:σ→ρ→Prop} {r:ρ} {r':ρ} (h:stepT jN s t C r) (e:jN s t=.inr r'):r=r':=by unfold stepT at h;rw [e] at h;exact h
theorem KF (g:σ→τ→σ) (C:σ→ρ→Prop) (L:List τ):∀ s r,foldT (stepT fun s t=>.inl (g s t)) C L s r↔C (L.foldl g s) r:=by
 induction L with
 | nil=>intro s r;exact Iff.rfl
 | cons t L ih=>intro s r;exact ih (g s t) r
theorem mL (g:σ→τ→σ) (fin:σ→ρ) (L:List τ):∀ s,uG (fun s t=>.inl (g s t)) fin L s=fin (L.foldl g s):=by
 induction L with
 | nil=>intro s;rfl
 | cons t L ih=>intro s;exact ih (g s t)
theorem zU (a:Int) (d:Nat):(gW a d).length=d:=by
 induction d generalizing a with
 | zero=>rfl
 | succ d ih=>simp [gW,ih]
end Go.Proofs.YteaagaekdkolnaaGreat.Com

namespace Go.Proofs.YteaagaekdkolnaaGreat.Pure
open Go.RowKit Go.Proofs.YteaagaekdkolnaaGreat.P Go.Proofs.YteaagaekdkolnaaGreatW.PrintWords Go.Proofs.YteaagaekdkolnaaGreatW.PrintLast Go.Proofs.YteaagaekdkolnaaGreat.Com
set_option linter.unusedSimpArgs false
set_option linter.unusedVariables false
def nP (t:Int×Int×Int):pO:=⟨t.1,t.2.1,t.2.2⟩
theorem UG:impl_triplesOf.f 200 (0:Nat)=some ((cJ 0).map nP):=by kernel_rfl
theorem UI:impl_triplesOf.f 200 (1:Nat)=some ((cJ 1).map nP):=by kernel_rfl
theorem UJ:impl_triplesOf.f 200 (2:Nat)=some ((cJ 2).map nP):=by kernel_rfl
theorem NN:impl_triplesOf.f 200 (3:Nat)=some ((cJ 3).map nP):=by kernel_rfl
theorem NO:impl_triplesOf.f 200 (4:Nat)=some ((cJ 4).map nP):=by kernel_rfl
theorem NP:impl_triplesOf.f 200 (5:Nat)=some ((cJ 5).map nP):=by kernel_rfl
theorem NQ:impl_triplesOf.f 200 (6:Nat)=some ((cJ 6).map nP):=by kernel_rfl
theorem NR:impl_triplesOf.f 200 (7:Nat)=some ((cJ 7).map nP):=by kernel_rfl
theorem tM (n:Nat) (hn:n≤7):Ev (fun k=>impl_triplesOf.f k (n:Int)) ((cJ n).map nP):=by
 have h:impl_triplesOf.f 200 (n:Int)=some ((cJ n).map nP):=by
  have z:n=0∨n=1∨n=2∨n=3∨n=4∨n=5∨n=6∨n=7:=by omega
  rcases z with rfl|rfl|rfl|rfl|rfl|rfl|rfl|rfl
  ·exact UG
  ·exact UI
  ·exact UJ
  ·exact NN
  ·exact NO
  ·exact NP
  ·exact NQ
  ·exact NR
 exact yM (fun k=>impl_triplesOf.mono _ k) h
def sO (l:List cF) (i j k:Int):Int:=xM (aC l i).f0 (aC l i).f1 (aC l j).f0 (aC l j).f1 (aC l k).f0 (aC l k).f1
def iV (l:List cF) (i:Int):Bool:=kX (aC l i).f0 50&&kX (aC l i).f1 50
def nz (l:List cF) (i j k:Int):Bool:=!(sO l i j k==0)
def fM (l:List cF):Bool:=decide (3≤l.length∧l.length≤7)&&(gW 0 l.length).all fun k=>iV l k&&(gW 0 k.toNat).all fun j=>(gW 0 j.toNat).all fun i=>nz l i j k
theorem rN (l:List cF):fM l=true↔(3≤l.length∧l.length≤7)∧(∀ i:Int,0≤i→i<l.length→iV l i=true)∧(∀ i j k:Int,0≤i→i<j→j<k→k<l.length→sO l i j k≠0):=by
 unfold fM
 simp only [Bool.and_eq_true,decide_eq_true_eq,List.all_eq_true,iU,nz,Bool.not_eq_true',beq_eq_false_iff_ne]
 constructor
 ·rintro ⟨hl,h⟩
  refine ⟨hl,fun i h0 h1=>(h i ⟨h0,by omega⟩).1,fun i j k h0 h1 h2 h3=>?_⟩
  exact (h k ⟨by omega,by omega⟩).2 j ⟨by omega,by omega⟩ i ⟨by omega,by omega⟩
 ·rintro ⟨hl,hf,ha⟩
  refine ⟨hl,fun k hk=>⟨hf k hk.1 (by omega),fun j hj i hi=>ha i j k (by omega) (by omega) (by omega) (by omega)⟩⟩
theorem KG (l:List cF) (i j k:Int):spec_l2Area.f (aC l i).f0 (aC l i).f1 (aC l j).f0 (aC l j).f1 (aC l k).f0 (aC l k).f1=some (sO l i j k):=wF _ _ _ _ _ _
theorem eK (l:List cF) (hl:l.length≤1099511627776):Ev (fun k=>spec_ArePoints.f k l) (fM l):=by
 simp only [spec_ArePoints.f,DD,Option.bind_some]
 by_cases h:3≤l.length∧l.length≤7
 ·refine bG (by simp;omega) ?_
  have e:fM l=(gW 0 l.length).all fun k=>iV l k&&(gW 0 k.toNat).all fun j=>(gW 0 j.toNat).all fun i=>nz l i j k:=by unfold fM;rw [decide_eq_true h];simp
  rw [e]
  refine gZ (σ:=Unit) (l:=fun k _ i=>fD k l i) (l.length:Int) (T:=mZ _) (nM _) (C:=fun _ r=>r=true) 0 ?_ ?_ l.length 0 (by omega) (by omega) () _ (sN _ _ _ rfl)
  ·intro _ k hk0 hkn r hT
   rw [← PD (fun k j=>(gW 0 j.toNat).all fun i=>nz l i j k) (iV l) (fun k=>gW 0 k.toNat)] at hT
   refine aQ (f:=fun q=>if iV l k=true then eJ q l k 0 else some false) (fun q=>?_) ?_
   ·simp only [fD]
    rw [if_pos hkn,if_pos hk0,BE _ _ 50 (by omega) (by omega)];rfl
   cases hf:iV l k with
   | false=>rw [hf] at hT;simp only [Bool.false_eq_true,if_false] at hT ⊢;subst hT;exact bL _
   | true =>
    rw [hf] at hT;simp only [if_true] at hT ⊢
    refine gZ (σ:=Unit) (l:=fun q _ j=>eJ q l k j) k (T:=mZ fun j=>(gW 0 j.toNat).all fun i=>nz l i j k) (nM _) (C:=fun s r=>Ev (fun q=>fD q l (k+1)) r) 0 ?_ ?_ k.toNat 0 (by omega) (by omega) () r hT
    ·intro _ j hj0 hjk r hT
     refine aQ (f:=fun q=>fE q l k j 0) (fun q=>by simp only [eJ];rw [if_pos hjk]) ?_
     have hT2:foldT (mZ fun i=>nz l i j k) (fun _ r=>Ev (fun q=>eJ q l k (j+1)) r) (gW 0 j.toNat) () r:=by rw [BF];exact hT
     refine gZ (σ:=Unit) (l:=fun q _ i=>fE q l k j i) j (T:=mZ fun i=>nz l i j k) (nM _) 0 ?_ ?_ j.toNat 0 (by omega) (by omega) () r hT2
     ·intro _ i hi0 hij r hT
      refine aQ (f:=fun q=>if sO l i j k=0 then some false else fE q l k j (i+1)) (fun q=>?_) ?_
      ·simp only [fE]
       rw [if_pos hij,if_pos hi0,if_pos (by omega),if_pos hj0,if_pos (by omega),if_pos hk0,if_pos hkn,KG,w64 (by omega) (by omega)];rfl
      by_cases hz:sO l i j k=0
      ·have:r=false:=by simpa [mZ,nz,hz] using hT
       subst this;exact bG hz (bL _)
      ·refine dK hz ?_;simpa [mZ,nz,hz] using hT
     ·intro _ r hC
      refine aQ (f:=fun q=>eJ q l k (j+1)) (fun q=>?_) hC
      simp only [fE]
      rw [if_neg (by omega),w64 (by omega) (by omega)]
    ·intro _ r hC
     refine aQ (f:=fun q=>fD q l (k+1)) (fun q=>?_) hC
     simp only [eJ]
     rw [if_neg (by omega),w64 (by omega) (by omega)]
  ·intro _ r hC
   subst hC
   refine aQ (f:=fun _=>some true) (fun q=>?_) (bL true)
   simp only [fD]
   rw [if_neg (by omega)]
 ·have e:fM l=false:=by unfold fM;rw [decide_eq_false h];rfl
  rw [e]
  exact dK (by simp;omega) (bL _)
theorem KI (x:Int):QO x=0↔x=0:=by unfold QO;split <;> (try split) <;> omega
theorem MK (l:List cF):(l.all fun p=>kX p.f0 50&&kX p.f1 50)=(gW 0 l.length).all (iV l):=by
 rw [Bool.eq_iff_iff]
 simp only [List.all_eq_true,iU]
 constructor
 ·intro h i hi
  exact h (aC l i) (kH l i.toNat z28 (by omega))
 ·intro h p hp
  obtain ⟨n,hn,rfl⟩:=List.mem_iff_getElem.1 hp
  have:=h (n:Int) (by omega)
  simpa [iV,aC,List.getD,List.getElem?_eq_getElem hn] using this
theorem FH (l:List cF) (i j k:Int) (hi:iV l i=true) (hj:iV l j=true) (hk:iV l k=true) :
  impl_TurnOf.f (aC l i).f0 (aC l i).f1 (aC l j).f0 (aC l j).f1 (aC l k).f0 (aC l k).f1=some (QO (sO l i j k)):=by
 rw [FY,if_pos];· rfl
 simp only [iV,Bool.and_eq_true,jJ] at *
 omega
theorem gY (l:List cF) (hl:l.length≤1099511627776):Ev (fun k=>impl_ArePoints.f k l) (fM l):=by
 have stop:Ev (fun k=>fW k l true) false:=aQ (f:=fun _=>some false) (fun k=>by simp only [fW,if_true]) (bL _)
 simp only [impl_ArePoints.f,yI 50 _ (show (0:Int)≤50 by omega) (by omega),Option.bind_some]
 by_cases h3:(l.length:Int)<3
 ·have e:fM l=false:=by unfold fM;rw [decide_eq_false (by omega)];rfl
  rw [e];exact bG h3 stop
 refine dK h3 ?_
 by_cases h7:(l.length:Int) > 7
 ·have e:fM l=false:=by unfold fM;rw [decide_eq_false (by omega)];rfl
  rw [e];exact bG h7 stop
 refine dK h7 ?_
 rw [MK]
 cases hf:(gW 0 l.length).all (iV l) with
 | false =>
  have e:fM l=false:=by
   rw [Bool.eq_false_iff];intro hp
   rw [rN] at hp
   rw [List.all_eq_false] at hf
   obtain ⟨x,hx,hx'⟩:=hf
   rw [iU] at hx
   exact hx' (hp.2.1 x hx.1 (by omega))
  rw [e];exact stop
 | true =>
  have hF:∀ i,0≤i→i<(l.length:Int)→iV l i=true:=fun i h0 h1=>by
   rw [List.all_eq_true] at hf;exact hf i (by rw [iU];omega)
  refine aQ (f:=fun k=>(impl_triplesOf.f k (l.length:Int)).bind fun t=>fB k l t (t.length:Int) 0) (fun k=>by simp only [fW,Bool.not_true,Bool.false_eq_true,if_false]) ?_
  refine Ev.bind (tM l.length (by omega)) ?_
  have e:fM l=((cJ l.length).map nP).all fun t=>nz l t.f0 t.f1 t.f2:=by
   rw [Bool.eq_iff_iff,rN]
   simp only [List.all_eq_true,List.mem_map]
   constructor
   ·rintro ⟨_,_,ha⟩ t ⟨⟨i,j,k⟩,hm,rfl⟩
    rw [iW] at hm
    simp only [nP,nz,Bool.not_eq_true',beq_eq_false_iff_ne]
    exact ha i j k hm.1 hm.2.1 hm.2.2.1 hm.2.2.2
   ·intro h
    refine ⟨by omega,hF,fun i j k h0 h1 h2 h3=>?_⟩
    have:=h _ ⟨(i,j,k),by rw [iW];omega,rfl⟩
    simpa [nP,nz] using this
  rw [e]
  refine listLoop0 (σ:=Unit) (l:=fun q _ i=>fB q l _ _ i) ((cJ l.length).map nP) VM (T:=mZ _) (nM _) (C:=fun _ r=>r=true) ?_ ?_ () _ (sN _ _ _ rfl)
  ·intro _ i hi0 hin r hT
   have hm:((cJ l.length).map nP).getD i.toNat VM ∈ (cJ l.length).map nP:=kH _ _ _ (by omega)
   generalize hg:((cJ l.length).map nP).getD i.toNat VM=t at hm hT
   have hr:aG ((cJ l.length).map nP) i=t:=hg
   obtain ⟨⟨a,b,c⟩,hm3,rfl⟩:=List.mem_map.1 hm
   clear hm
   have hm:=iW.1 hm3
   refine aQ (f:=fun q=>if QO (sO l a b c)=0 then some false else fB q l ((cJ l.length).map nP) (((cJ l.length).map nP).length:Int) (i+1)) (fun q=>?_) ?_
   ·simp only [fB,hr,nP]
    have hlen:i<(((cJ l.length).map nP).length:Int):=hin
    have hb:(((cJ l.length).map nP).length:Int)≤35:=by
     have:l.length=3∨l.length=4∨l.length=5∨l.length=6∨l.length=7:=by omega
     rcases this with h|h|h|h|h <;> rw [h] <;> decide +kernel
    rw [if_pos hlen,if_pos hi0,if_pos (by omega),if_pos (by omega),if_pos (by omega),if_pos (by omega),if_pos (by omega),if_pos (by omega),if_pos (by omega),FH l a b c (hF a (by omega) (by omega)) (hF b (by omega) (by omega)) (hF c (by omega) (by omega)),w64 (by omega) (by omega)];rfl
   by_cases hz:sO l a b c=0
   ·have:r=false:=by simpa [mZ,nz,nP,hz] using hT
    subst this;exact bG ((KI _).2 hz) (bL _)
   ·refine dK (fun h=>hz ((KI _).1 h)) ?_;simpa [mZ,nz,nP,hz] using hT
  ·intro _ r hC
   subst hC
   refine aQ (f:=fun _=>some true) (fun q=>?_) (bL true)
   simp only [fB]
   rw [if_neg (by omega)]
theorem tN {a b c d e f:Int} (ha:in7 a) (hb:in7 b) (hc:in7 c) (hd:in7 d) (he:in7 e) (hf:in7 f) (h:nB a b c=nB d e f):a=d∧b=e∧c=f:=by
 unfold in7 at *
 unfold nB at h
 omega
structure IG (n:Int) (X:Int→Int→Int→Int):Prop where
 le:n≤7
 s1:∀ i j k,0≤i→i<n→0≤j→j<n→0≤k→k<n→i≠j→j≠k→i≠k→X j i k = -X i j k
 s2:∀ i j k,0≤i→i<n→0≤j→j<n→0≤k→k<n→i≠j→j≠k→i≠k→X i k j = -X i j k
 pm:∀ i j k,0≤i→i<n→0≤j→j<n→0≤k→k<n→i≠j→j≠k→i≠k→X i j k=1∨X i j k = -1
def EB (X:Int→Int→Int→Int) (T:Nat→Int) (t:pO):Nat→Int:=IE T t.f0 t.f1 t.f2 (X t.f0 t.f1 t.f2)
theorem UK {n:Int} {X:Int→Int→Int→Int} (hX:IG n X) (T:Nat→Int) (t:pO) (h0:0≤t.f0) (h1:t.f0<t.f1) (h2:t.f1<t.f2) (h3:t.f2<n) (i j k:Int) (hi:0≤i∧i<n) (hj:0≤j∧j<n) (hk:0≤k∧k<n) (hij:i≠j) (hjk:j≠k) (hik:i≠k) :
  EB X T t (nB i j k)=X i j k∨(EB X T t (nB i j k)=T (nB i j k)∧¬ ((i=t.f0∨i=t.f1∨i=t.f2)∧(j=t.f0∨j=t.f1∨j=t.f2)∧(k=t.f0∨k=t.f1∨k=t.f2))):=by
 obtain ⟨a,b,c⟩:=t
 simp only at h0 h1 h2 h3 ⊢
 have h7:=hX.le
 have ia:in7 a:=⟨by omega,by omega⟩
 have ib:in7 b:=⟨by omega,by omega⟩
 have ic:in7 c:=⟨by omega,by omega⟩
 have ii:in7 i:=⟨by omega,by omega⟩
 have ij:in7 j:=⟨by omega,by omega⟩
 have ik:in7 k:=⟨by omega,by omega⟩
 have e1:=hX.s1 a b c h0 (by omega) (by omega) (by omega) (by omega) h3 (by omega) (by omega) (by omega)
 have e2:=hX.s2 a b c h0 (by omega) (by omega) (by omega) (by omega) h3 (by omega) (by omega) (by omega)
 have e3:=hX.s2 b a c (by omega) (by omega) (by omega) (by omega) (by omega) h3 (by omega) (by omega) (by omega)
 have e4:=hX.s1 a c b (by omega) (by omega) (by omega) (by omega) (by omega) (by omega) (by omega) (by omega) (by omega)
 have e5:=hX.s2 c a b (by omega) (by omega) (by omega) (by omega) (by omega) (by omega) (by omega) (by omega) (by omega)
 have ep:=hX.pm a b c h0 (by omega) (by omega) (by omega) (by omega) h3 (by omega) (by omega) (by omega)
 have ew:wrap64 (-X a b c) = -X a b c:=by rcases ep with e|e <;> rw [e] <;> decide +kernel
 simp only [EB,IE,RN,ew]
 by_cases z1:nB i j k=nB b a c
 ·obtain ⟨rfl,rfl,rfl⟩:=tN ii ij ik ib ia ic z1
  left;rw [if_pos rfl];omega
 rw [if_neg z1]
 by_cases z2:nB i j k=nB c b a
 ·obtain ⟨rfl,rfl,rfl⟩:=tN ii ij ik ic ib ia z2
  left;rw [if_pos rfl];omega
 rw [if_neg z2]
 by_cases z3:nB i j k=nB a c b
 ·obtain ⟨rfl,rfl,rfl⟩:=tN ii ij ik ia ic ib z3
  left;rw [if_pos rfl];omega
 rw [if_neg z3]
 by_cases z4:nB i j k=nB c a b
 ·obtain ⟨rfl,rfl,rfl⟩:=tN ii ij ik ic ia ib z4
  left;rw [if_pos rfl];omega
 rw [if_neg z4]
 by_cases z5:nB i j k=nB b c a
 ·obtain ⟨rfl,rfl,rfl⟩:=tN ii ij ik ib ic ia z5
  left;rw [if_pos rfl];omega
 rw [if_neg z5]
 by_cases z6:nB i j k=nB a b c
 ·obtain ⟨rfl,rfl,rfl⟩:=tN ii ij ik ia ib ic z6
  left;rw [if_pos rfl]
 rw [if_neg z6]
 right
 refine ⟨rfl,?_⟩
 rintro ⟨hp,hq,hr⟩
 rcases hp with rfl|rfl|rfl <;> rcases hq with rfl|rfl|rfl <;> rcases hr with rfl|rfl|rfl <;> first|exact absurd rfl hij|exact absurd rfl hjk|exact absurd rfl hik|exact absurd rfl z1|exact absurd rfl z2|exact absurd rfl z3|exact absurd rfl z4|exact absurd rfl z5|exact absurd rfl z6
theorem PE {n:Int} {X:Int→Int→Int→Int} (hX:IG n X) (T0:Nat→Int) (L:List pO) (hL:∀ t ∈ L,0≤t.f0∧t.f0<t.f1∧t.f1<t.f2∧t.f2<n) (i j k:Int) (hi:0≤i∧i<n) (hj:0≤j∧j<n) (hk:0≤k∧k<n) (hij:i≠j) (hjk:j≠k) (hik:i≠k)
  (hm:∃ t ∈ L,(i=t.f0∨i=t.f1∨i=t.f2)∧(j=t.f0∨j=t.f1∨j=t.f2)∧(k=t.f0∨k=t.f1∨k=t.f2)):L.foldl (EB X) T0 (nB i j k)=X i j k:=by
 have key:∀ M:List pO,(∀ t ∈ M,0≤t.f0∧t.f0<t.f1∧t.f1<t.f2∧t.f2<n)→∀ T:Nat→Int,(T (nB i j k)=X i j k∨∃ t ∈ M,(i=t.f0∨i=t.f1∨i=t.f2)∧(j=t.f0∨j=t.f1∨j=t.f2)∧(k=t.f0∨k=t.f1∨k=t.f2))→M.foldl (EB X) T (nB i j k)=X i j k:=by
  intro M
  induction M with
  | nil =>
   rintro _ T (h|⟨t,ht,_⟩)
   ·exact h
   ·cases ht
  | cons u M ih =>
   intro hM T h
   rw [List.foldl_cons]
   refine ih (fun t ht=>hM t (List.mem_cons_of_mem _ ht)) _ ?_
   obtain ⟨u0,u1,u2,u3⟩:=hM u (List.mem_cons_self ..)
   rcases UK hX T u u0 u1 u2 u3 i j k hi hj hk hij hjk hik with e|⟨e,hne⟩
   ·exact Or.inl e
   ·rcases h with h|⟨t,ht,hp⟩
    ·exact Or.inl (by rw [e];exact h)
    ·rcases List.mem_cons.1 ht with rfl|ht
     ·exact absurd hp hne
     ·exact Or.inr ⟨t,ht,hp⟩
 exact key L hL T0 (Or.inr hm)
/-! ### the list of triples -/
theorem lC (n:Nat) (h:3≤n∧n≤7):eW (n:Int)=(cJ n).map nP:=by
 obtain ⟨h1,h2⟩:=h
 have z:n=3∨n=4∨n=5∨n=6∨n=7:=by omega
 have e:∀ m:Nat,impl_triplesOf.f 200 (m:Int)=some ((cJ m).map nP)→eW (m:Int)=(cJ m).map nP:=by
  intro m hm
  have h300:impl_triplesOf.f 300 (m:Int)=some ((cJ m).map nP):=by
   have up:∀ d,impl_triplesOf.f (200+d) (m:Int)=some ((cJ m).map nP):=by
    intro d
    induction d with
    | zero=>exact hm
    | succ d ih=>exact impl_triplesOf.mono _ _ _ ih
   exact up 100
  unfold eW
  rw [h300]
  rfl
 rcases z with rfl|rfl|rfl|rfl|rfl
 ·exact e 3 NN
 ·exact e 4 NO
 ·exact e 5 NP
 ·exact e 6 NQ
 ·exact e 7 NR
theorem UL (i j k:Int) (hij:i≠j) (hjk:j≠k) (hik:i≠k):∃ a b c:Int,a<b∧b<c∧(i=a∨i=b∨i=c)∧(j=a∨j=b∨j=c)∧(k=a∨k=b∨k=c)∧(a=i∨a=j∨a=k)∧(c=i∨c=j∨c=k):=by
 by_cases h1:i<j
 ·by_cases h2:j<k
  ·exact ⟨i,j,k,by omega,by omega,by omega,by omega,by omega,by omega,by omega⟩
  ·by_cases h3:i<k
   ·exact ⟨i,k,j,by omega,by omega,by omega,by omega,by omega,by omega,by omega⟩
   ·exact ⟨k,i,j,by omega,by omega,by omega,by omega,by omega,by omega,by omega⟩
 ·by_cases h2:i<k
  ·exact ⟨j,i,k,by omega,by omega,by omega,by omega,by omega,by omega,by omega⟩
  ·by_cases h3:j<k
   ·exact ⟨j,k,i,by omega,by omega,by omega,by omega,by omega,by omega,by omega⟩
   ·exact ⟨k,j,i,by omega,by omega,by omega,by omega,by omega,by omega,by omega⟩
theorem sP {n:Nat} (hn:3≤n∧n≤7) {X:Int→Int→Int→Int} (hX:IG n X) (T0:Nat→Int) (i j k:Int) (hi:0≤i∧i<n) (hj:0≤j∧j<n) (hk:0≤k∧k<n) (hij:i≠j) (hjk:j≠k) (hik:i≠k) :
  (eW (n:Int)).foldl (EB X) T0 (nB i j k)=X i j k:=by
 rw [lC n hn]
 refine PE hX T0 _ ?_ i j k hi hj hk hij hjk hik ?_
 ·intro t ht
  obtain ⟨⟨a,b,c⟩,hm,rfl⟩:=List.mem_map.1 ht
  exact iW.1 hm
 ·obtain ⟨a,b,c,hab,hbc,h1,h2,h3,h4,h5⟩:=UL i j k hij hjk hik
  exact ⟨nP (a,b,c),List.mem_map.2 ⟨(a,b,c),iW.2 ⟨by omega,hab,hbc,by omega⟩,rfl⟩,h1,h2,h3⟩
/-! ### the text of signs -/
theorem zV (L:List Int) (hL:∀ x ∈ L,0≤x∧x<256) (i:Int) (h0:0≤i) (h1:i<L.length):bt (strOfNums L) i=L.getD i.toNat 0:=by
 have hs:i.toNat<(strOfNums L).size:=by rw [strOfNums_size];omega
 rw [← lK _ _ hs]
 have hl:i.toNat<L.length:=by omega
 have:(strOfNums L)[i.toNat]'hs=UInt8.ofNat (L[i.toNat]).toNat:=by
  show (strOfNums L).data[i.toNat]=_
  simp [strOfNums]
 rw [this]
 have hx:=hL _ (List.getElem_mem hl)
 rw [List.getD_eq_getElem?_getD,List.getElem?_eq_getElem hl]
 simp only [Option.getD_some,UInt8.toNat_ofNat']
 omega
end Go.Proofs.YteaagaekdkolnaaGreat.Pure

namespace Go.Proofs.YteaagaekdkolnaaGreat.Com
open Go.RowKit Go.Proofs.YteaagaekdkolnaaGreatW.PrintWords
set_option linter.unusedSimpArgs false
set_option linter.unusedVariables false
variable {σ τ ρ υ : Type}
theorem EC {T:σ→υ→(σ→ρ→Prop)→ρ→Prop} (hT:uF T) (L:τ→List υ) (C:σ→ρ→Prop) (J:List τ):∀ s r,foldT (CC (fun _=>T) L) C J s r↔foldT T C (J.flatMap L) s r:=by
 induction J with
 | nil=>intro s r;exact Iff.rfl
 | cons t J ih =>
  intro s r
  rw [List.flatMap_cons,zT]
  exact ⟨fun h=>yJ hT (fun s r=>(ih s r).1) (L t) s r h,fun h=>yJ hT (fun s r=>(ih s r).2) (L t) s r h⟩
theorem ML (T:σ→τ→(σ→ρ→Prop)→ρ→Prop) (f:υ→τ) (C:σ→ρ→Prop) (L:List υ):∀ s r,foldT T C (L.map f) s r↔foldT (fun s u=>T s (f u)) C L s r:=by
 induction L with
 | nil=>intro s r;exact Iff.rfl
 | cons u L ih =>
  have e:foldT T C (L.map f)=foldT (fun s u=>T s (f u)) C L:=by funext s r;exact propext (ih s r)
  intro s r
  show T s (f u) (foldT T C (L.map f)) r↔T s (f u) (foldT (fun s u=>T s (f u)) C L) r
  rw [e]
theorem GA {l0:Nat→σ→Int→Option ρ} {l1:Nat→σ→Int→Int→Option ρ} {l2:Nat→σ→Int→Int→Int→Option ρ} (n:Nat) {T:σ→(Int×Int×Int)→(σ→ρ→Prop)→ρ→Prop} (hM:uF T) {C:σ→ρ→Prop}
  (h2:∀ s i j k,0≤i→i<j→j<k→k<(n:Int)→∀ r,T s (i,j,k) (fun s' r'=>Ev (fun q=>l2 q s' i j (k+1)) r') r→Ev (fun q=>l2 q s i j k) r)
  (h2e:∀ s i j,0≤i→i<j→j<(n:Int)→∀ r,Ev (fun q=>l1 q s i (j+1)) r→Ev (fun q=>l2 q s i j n) r)
  (h1:∀ s i j,0≤i→i<j→j<(n:Int)→∀ r,Ev (fun q=>l2 q s i j (j+1)) r→Ev (fun q=>l1 q s i j) r)
  (h1e:∀ s i,0≤i→i<(n:Int)→∀ r,Ev (fun q=>l0 q s (i+1)) r→Ev (fun q=>l1 q s i n) r)
  (h0:∀ s i,0≤i→i<(n:Int)→∀ r,Ev (fun q=>l1 q s i (i+1)) r→Ev (fun q=>l0 q s i) r)
  (h0e:∀ s r,C s r→Ev (fun q=>l0 q s n) r) (s:σ) (r:ρ) (hT:foldT T C (cJ n) s r):Ev (fun q=>l0 q s 0) r:=by
 unfold cJ at hT
 rw [← EC hM] at hT
 refine gZ (l:=l0) (n:Int) (tL (fun _=>hM) _) (C:=C) 0 ?_ h0e n 0 (by omega) (by omega) s _ hT
 intro s i hi0 hin r hT
 refine h0 s i hi0 hin r ?_
 unfold CC at hT
 rw [← EC hM] at hT
 refine gZ (l:=fun q s j=>l1 q s i j) (n:Int) (tL (fun _=>hM) _) (i+1) ?_ (fun s r h=>h1e s i hi0 hin r h) ((n:Int)-1-i).toNat (i+1) (by omega) (by omega) s r hT
 intro s j hj0 hjn r hT
 refine h1 s i j hi0 (by omega) hjn r ?_
 unfold CC at hT
 rw [ML] at hT
 refine gZ (l:=fun q s k=>l2 q s i j k) (n:Int) (T:=fun s k=>T s (i,j,k)) (fun s t C D r h hh=>hM s _ C D r h hh) (j+1) ?_ (fun s r h=>h2e s i j hi0 (by omega) hjn r h) ((n:Int)-1-j).toNat (j+1) (by omega) (by omega) s r hT
 intro s k hk0 hkn r hT
 exact h2 s i j k hi0 (by omega) (by omega) hkn r hT
def CD (g:τ→Option υ):List υ→τ→(List υ→ρ→Prop)→ρ→Prop:=fun s t C r =>
 match g t with
 | some v=>s.length<1000000∧C (s++[v]) r
 | none=>C s r
theorem tO (g:τ→Option υ):uF (CD (ρ:=ρ) g):=by
 intro s t C D r h hT
 unfold CD at *
 revert hT
 cases g t with
 | some v=>exact fun hT=>⟨hT.1,h _ _ hT.2⟩
 | none=>exact fun hT=>h _ _ hT
theorem tP (g:τ→Option υ) (C:List υ→ρ→Prop) (L:List τ):∀ s r,s.length+L.length≤1000000→C (s++L.filterMap g) r→foldT (CD g) C L s r:=by
 induction L with
 | nil=>intro s r _ h;show C s r;simpa using h
 | cons t L ih =>
  intro s r hb h
  simp only [List.length_cons] at hb
  show CD g s t _ r
  unfold CD
  cases hg:g t with
  | some v =>
   refine ⟨by omega,ih _ _ (by simp;omega) ?_⟩
   rw [List.filterMap_cons,hg] at h
   simpa using h
  | none =>
   refine ih _ _ (by omega) ?_
   rw [List.filterMap_cons,hg] at h
   exact h
theorem tQ {g:τ→Option υ} {s:List υ} {t:τ} {C:List υ→ρ→Prop} {r:ρ} {v:υ} (h:CD g s t C r) (e:g t=some v):s.length<1000000∧C (s++[v]) r:=by unfold CD at h;rw [e] at h;exact h
end Go.Proofs.YteaagaekdkolnaaGreat.Com

namespace Go.Proofs.YteaagaekdkolnaaGreat.Pure
open Go.RowKit Go.Proofs.YteaagaekdkolnaaGreat.P Go.Proofs.YteaagaekdkolnaaGreatW.PrintWords Go.Proofs.YteaagaekdkolnaaGreatW.PrintLast Go.Proofs.YteaagaekdkolnaaGreat.Com
set_option linter.unusedSimpArgs false
set_option linter.unusedVariables false
/-! ### areas -/
theorem DE (p q:Int) (h1:-100≤p) (h2:p≤100) (h3:-100≤q) (h4:q≤100):-10000≤p*q∧p*q≤10000:=by
 have a1:=Int.mul_nonneg (show 0≤100-p by omega) (show 0≤100+q by omega)
 have a2:=Int.mul_nonneg (show 0≤100+p by omega) (show 0≤100-q by omega)
 have a3:=Int.mul_nonneg (show 0≤100-p by omega) (show 0≤100-q by omega)
 have a4:=Int.mul_nonneg (show 0≤100+p by omega) (show 0≤100+q by omega)
 constructor <;> grind
abbrev PL:=List cF
def pX (l:PL) (i:Int):Int:=(aC l i).f0
def pY (l:PL) (i:Int):Int:=(aC l i).f1
def sV (l:PL) (i j k:Int):Int:=(pX l j-pX l i)*(pY l k-pY l i)-(pY l j-pY l i)*(pX l k-pX l i)
theorem zW (l:PL) (i j k:Int) (hi:iV l i=true) (hj:iV l j=true) (hk:iV l k=true):sO l i j k=sV l i j k:=by
 simp only [iV,Bool.and_eq_true,jJ] at hi hj hk
 have m1:=DE (pX l j-pX l i) (pY l k-pY l i) (by unfold pX;omega) (by unfold pX;omega) (by unfold pY;omega) (by unfold pY;omega)
 have m2:=DE (pY l j-pY l i) (pX l k-pX l i) (by unfold pY;omega) (by unfold pY;omega) (by unfold pX;omega) (by unfold pX;omega)
 unfold sO xM
 show wrap64 (sV l i j k)=sV l i j k
 unfold sV
 exact w64 (by omega) (by omega)
def sg (l:PL) (i j k:Int):Int:=if 0<sV l i j k then 1 else -1
structure pQ (l:PL):Prop where
 b:fM l=true
 len:3≤l.length∧l.length≤7
 fit:∀ i:Int,0≤i→i<l.length→iV l i=true
 nz:∀ i j k:Int,0≤i→i<l.length→0≤j→j<l.length→0≤k→k<l.length→i≠j→j≠k→i≠k→sV l i j k≠0
theorem yK (l:PL) (i j k:Int):sV l j i k = -sV l i j k:=by unfold sV;grind
theorem MM (l:PL) (i j k:Int):sV l i k j = -sV l i j k:=by unfold sV;grind
theorem RX {l:PL} (h:fM l=true):pQ l:=by
 obtain ⟨hl,hf,ha⟩:=(rN l).1 h
 have asc:∀ i j k:Int,0≤i→i<j→j<k→k<l.length→sV l i j k≠0:=fun i j k h0 h1 h2 h3=>by
  rw [← zW l i j k (hf i h0 (by omega)) (hf j (by omega) (by omega)) (hf k (by omega) h3)]
  exact ha i j k h0 h1 h2 h3
 refine ⟨h,hl,hf,fun i j k hi hi' hj hj' hk hk' hij hjk hik=>?_⟩
 by_cases h1:i<j
 ·by_cases h2:j<k
  ·exact asc i j k hi h1 h2 hk'
  ·have e:=MM l i j k
   by_cases h3:i<k
   ·have:=asc i k j hi h3 (by omega) hj';omega
   ·have:=asc k i j hk (by omega) h1 hj';have e2:=yK l i k j;omega
 ·have e:=yK l i j k
  by_cases h2:i<k
  ·have:=asc j i k hj (by omega) h2 hk';omega
  ·have e2:=MM l j i k
   by_cases h3:j<k
   ·have:=asc j k i hj h3 (by omega) hi';omega
   ·have:=asc k j i hk (by omega) (by omega) hi';have e3:=yK l j k i;omega
theorem pQ.chi {l:PL} (h:pQ l):IG (l.length:Int) (sg l):=by
 refine ⟨by have:=h.len;omega,?_,?_,fun i j k _ _ _ _ _ _ _ _ _=>by unfold sg;split <;> simp⟩
 ·intro i j k hi hi' hj hj' hk hk' hij hjk hik
  have:=h.nz i j k hi hi' hj hj' hk hk' hij hjk hik
  have e:=yK l i j k
  unfold sg
  by_cases z:0<sV l i j k
  ·rw [if_pos z,if_neg (by omega)]
  ·rw [if_neg z,if_pos (by omega)];rfl
 ·intro i j k hi hi' hj hj' hk hk' hij hjk hik
  have:=h.nz i j k hi hi' hj hj' hk hk' hij hjk hik
  have e:=MM l i j k
  unfold sg
  by_cases z:0<sV l i j k
  ·rw [if_pos z,if_neg (by omega)]
  ·rw [if_neg z,if_pos (by omega)];rfl
/-! ### the text -/
def NS (X:Int→Int→Int→Int) (t:Int×Int×Int):Int:=if X t.1 t.2.1 t.2.2 > 0 then 43 else 45
def sgText (n:Nat) (X:Int→Int→Int→Int):ByteArray:=strOfNums ((cJ n).map (NS X))
theorem vP (n:Nat) (h:n≤7):(cJ n).length≤35:=by
 have z:n=0∨n=1∨n=2∨n=3∨n=4∨n=5∨n=6∨n=7:=by omega
 rcases z with rfl|rfl|rfl|rfl|rfl|rfl|rfl|rfl <;> decide +kernel
theorem RY (s:List Int) (v:Int):strOfNums (s++[v])=strOfNums s++strOfNums [v]:=by
 unfold strOfNums
 rw [ByteArray.mk_append_mk]
 simp
theorem oK (l:PL) (h:pQ l):Ev (fun k=>spec_SignsOf.f k l) ((l.length:Int),sgText l.length (sg l),true):=by
 have hl:=h.len
 refine Ev.bind (by have:=eK l (by omega);rw [h.b] at this;exact this) (bG rfl ?_)
 have hlen:=vP l.length (by omega)
 refine GA (σ:=List Int) (l0:=fun q s i=>gL q l i (l.length:Int) (strOfNums s)) (l1:=fun q s i j=>gM q l i j (l.length:Int) (strOfNums s)) (l2:=fun q s i j k=>eX q l i j k (l.length:Int) (strOfNums s)) l.length (tO fun t=>some (NS (sg l) t)) (C:=fun s r=>r=((l.length:Int),strOfNums s,true)) ?_ ?_ ?_ ?_ ?_ ?_ [] _ (tP _ _ _ [] _ (by simp;omega) ?_)
 ·intro s i j k hi hij hjk hk r hT
  obtain ⟨hs,hT⟩:=tQ hT rfl
  refine aQ (f:=fun q=>eX q l i j (k+1) (l.length:Int) (strOfNums (s++[NS (sg l) (i,j,k)]))) (fun q=>?_) hT
  simp only [eX]
  have hb:spec_l3Byte.f (sO l i j k)=some (strOfNums [NS (sg l) (i,j,k)]):=by
   rw [zW l i j k (h.fit i hi (by omega)) (h.fit j (by omega) (by omega)) (h.fit k (by omega) hk)]
   unfold spec_l3Byte.f NS sg
   by_cases z:0<sV l i j k
   ·rw [if_pos z,if_pos z];rfl
   ·rw [if_neg z,if_neg z];rfl
  rw [if_pos (by omega),if_pos hi,if_pos (by omega),if_pos (by omega),if_pos (by omega),if_pos (by omega),KG]
  simp only [Option.bind_some,hb]
  rw [if_pos (by rw [strOfNums_size,strOfNums_size];simp;omega),w64 (by omega) (by omega),RY]
 ·intro s i j hi hij hj r hC
  refine aQ (f:=fun q=>gM q l i (j+1) (l.length:Int) (strOfNums s)) (fun q=>?_) hC
  simp only [eX]
  rw [if_neg (by omega),w64 (by omega) (by omega)]
 ·intro s i j hi hij hj r hC
  refine aQ (f:=fun q=>eX q l i j (j+1) (l.length:Int) (strOfNums s)) (fun q=>?_) hC
  simp only [gM]
  rw [if_pos (by omega),w64 (by omega) (by omega)]
 ·intro s i hi hi' r hC
  refine aQ (f:=fun q=>gL q l (i+1) (l.length:Int) (strOfNums s)) (fun q=>?_) hC
  simp only [gM]
  rw [if_neg (by omega),w64 (by omega) (by omega)]
 ·intro s i hi hi' r hC
  refine aQ (f:=fun q=>gM q l i (i+1) (l.length:Int) (strOfNums s)) (fun q=>?_) hC
  simp only [gL]
  rw [if_pos (by omega),w64 (by omega) (by omega)]
 ·intro s r hC
  subst hC
  refine aQ (f:=fun q=>some ((l.length:Int),strOfNums s,true)) (fun q=>?_) (bL _)
  simp only [gL]
  rw [if_neg (by omega)]
 ·show _=((l.length:Int),strOfNums ([]++List.filterMap (some∘NS (sg l)) (cJ l.length)),true)
  rw [List.filterMap_eq_map,List.nil_append]
  rfl
/-! ### the program's side -/
theorem KJ (l:PL) (h:pQ l) (t:pO) (h0:0≤t.f0) (h1:t.f0<t.f1) (h2:t.f1<t.f2) (h3:t.f2<l.length):FW l t=some (sg l t.f0 t.f1 t.f2):=by
 have f0:=h.fit t.f0 h0 (by omega)
 have f1:=h.fit t.f1 (by omega) (by omega)
 have f2:=h.fit t.f2 (by omega) (by omega)
 unfold FW
 rw [FH l t.f0 t.f1 t.f2 f0 f1 f2,zW l _ _ _ f0 f1 f2]
 have:=h.nz t.f0 t.f1 t.f2 h0 (by omega) (by omega) (by omega) (by omega) h3 (by omega) (by omega) (by omega)
 unfold QO sg
 by_cases z:0<sV l t.f0 t.f1 t.f2
 ·rw [if_pos z,if_pos z]
 ·rw [if_neg z,if_neg z,if_pos (by omega)]
theorem rO {n:Nat} (hn:3≤n∧n≤7) {t:pO} (ht:t ∈ eW (n:Int)):0≤t.f0∧t.f0<t.f1∧t.f1<t.f2∧t.f2<n:=by
 rw [lC n hn] at ht
 obtain ⟨⟨a,b,c⟩,hm,rfl⟩:=List.mem_map.1 ht
 exact iW.1 hm
theorem CY {α β:Type} {f g:β→α→β} (L:List α):∀ b,(∀ b,∀ a ∈ L,f b a=g b a)→L.foldl f b=L.foldl g b:=by
 induction L with
 | nil=>intro b _;rfl
 | cons a L ih =>
  intro b h
  rw [List.foldl_cons,List.foldl_cons,h b a (List.mem_cons_self ..)]
  exact ih _ fun b a ha=>h b a (List.mem_cons_of_mem _ ha)
def tabX (n:Nat) (X:Int→Int→Int→Int):Nat→Int:=(eW (n:Int)).foldl (EB X) fun _=>0
theorem PF (l:PL) (h:pQ l):DC l (eW (l.length:Int))=tabX l.length (sg l):=by
 unfold DC tabX
 refine CY _ _ fun T t ht=>?_
 obtain ⟨h0,h1,h2,h3⟩:=rO h.len ht
 unfold qB EB
 rw [KJ l h t h0 h1 h2 h3]
 rfl
theorem CZ (l:PL) (h:pQ l):Ev (fun k=>impl_SignsOf.f k l) ((l.length:Int),sgText l.length (sg l),true):=by
 have hl:=h.len
 refine Ev.bind (by have:=gY l (by omega);rw [h.b] at this;exact this) (bG rfl (sM ?_))
 rw [if_pos ⟨by omega,fun t ht=>by obtain ⟨h0,h1,h2,h3⟩:=rO hl ht;rw [KJ l h t h0 h1 h2 h3];rfl⟩,PF l h]
 have e:(eW (l.length:Int)).map (FA (tabX l.length (sg l)))=(cJ l.length).map (NS (sg l)):=by
  conv=>lhs;arg 2;rw [lC _ hl]
  rw [List.map_map]
  refine List.map_congr_left fun t ht=>?_
  obtain ⟨a,b,c⟩:=t
  obtain ⟨h0,h1,h2,h3⟩:=iW.1 ht
  show (if tabX l.length (sg l) (nB a b c) > 0 then (43:Int) else 45)=if sg l a b c > 0 then 43 else 45
  have:=sP hl h.chi (fun _=>0) a b c ⟨h0,by omega⟩ ⟨by omega,by omega⟩ ⟨by omega,h3⟩ (by omega) (by omega) (by omega)
  rw [show tabX l.length (sg l) (nB a b c)=sg l a b c from this]
 rw [e]
 rfl
theorem RZ {α β:Type} (g:β→α×Nat→β) (f:β→α→β) (L:List α):∀ (m:Nat) (b:β),(∀ (b:β) (i:Nat) (h:i<L.length),g b (L[i],m+i)=f b L[i])→(L.zipIdx m).foldl g b=L.foldl f b:=by
 induction L with
 | nil=>intro m b _;rfl
 | cons a L ih =>
  intro m b h
  rw [List.zipIdx_cons,List.foldl_cons,List.foldl_cons,show g b (a,m)=f b a from h b 0 (by simp)]
  refine ih (m+1) _ fun b i hi=>?_
  have:=h b (i+1) (by simp;omega)
  simpa [Nat.add_assoc,Nat.add_comm 1 i] using this
theorem UM {n:Nat} (hn:3≤n∧n≤7) {X:Int→Int→Int→Int} (hX:IG (n:Int) X):JV (sgText n X) (eW (n:Int))=tabX n X:=by
 unfold JV tabX
 refine RZ _ _ _ 0 _ fun T i hi=>?_
 have hm:=rO hn (List.getElem_mem hi)
 unfold rA EB
 simp only [Nat.zero_add]
 have hlen:(eW (n:Int)).length=(cJ n).length:=by rw [lC n hn,List.length_map]
 have hb:bt (sgText n X) (i:Int)=if X (eW (n:Int))[i].f0 (eW (n:Int))[i].f1 (eW (n:Int))[i].f2 > 0 then 43 else 45:=by
  unfold sgText
  rw [zV _ (fun x hx=>by obtain ⟨t,_,rfl⟩:=List.mem_map.1 hx;unfold NS;split <;> omega) _ (by omega) (by rw [List.length_map];omega)]
  have hi':i<(cJ n).length:=by omega
  have e:(eW (n:Int))[i]=nP (cJ n)[i]:=by simp only [lC n hn,List.getElem_map]
  rw [e,List.getD_eq_getElem?_getD,Int.toNat_natCast,List.getElem?_eq_getElem (by rw [List.length_map];omega)]
  simp only [Option.getD_some,List.getElem_map]
  rfl
 rw [hb]
 have hp:=hX.pm (eW (n:Int))[i].f0 (eW (n:Int))[i].f1 (eW (n:Int))[i].f2 hm.1 (by omega) (by omega) (by omega) (by omega) hm.2.2.2 (by omega) (by omega) (by omega)
 rcases hp with e|e <;> rw [e] <;> rfl
theorem CH {n:Nat} (hn:3≤n∧n≤7) {X:Int→Int→Int→Int} (hX:IG (n:Int) X):impl_tableOf.f (n:Int) (sgText n X)=some ((n:Int),tabX n X):=by
 unfold impl_tableOf.f
 rw [if_pos ⟨by omega,by rw [lC n hn];simp [sgText,strOfNums_size]⟩,UM hn hX]
end Go.Proofs.YteaagaekdkolnaaGreat.Pure

namespace Go.Proofs.YteaagaekdkolnaaGreat.Pure
open Go.RowKit Go.Proofs.YteaagaekdkolnaaGreat.P Go.Proofs.YteaagaekdkolnaaGreatW.PrintWords Go.Proofs.YteaagaekdkolnaaGreatW.PrintLast Go.Proofs.YteaagaekdkolnaaGreat.Com
set_option linter.unusedSimpArgs false
set_option linter.unusedVariables false
set_option maxRecDepth 100000
def orM (L:List Int):Int:=L.foldl (fun m x=>Go.bits .or .i64 m (kS .i64 1 x)) 0
def addM (L:List Int):Int:=L.foldl (fun m x=>wrap64 (m+kS .i64 1 (IntKind.u64.wrap x))) 0
def i7 (a:Fin 7):Int:=((a.1:Nat):Int)
theorem mW {a:Int} (h:in7 a):∃ f:Fin 7,a=i7 f:=⟨⟨a.toNat,by unfold in7 at h;omega⟩,by unfold in7 at h;show a=((a.toNat:Nat):Int);omega⟩
theorem RH:impl_single.f 9 (orM [])=some (-1):=by decide +kernel
theorem zX:∀ a:Fin 7,impl_single.f 9 (orM [i7 a])=some (i7 a):=by decide +kernel
theorem sQ:∀ a b:Fin 7,a≠b→impl_single.f 9 (orM [i7 a,i7 b])=some (-1):=by decide +kernel
theorem zY:∀ a b c:Fin 7,a≠b→a≠c→b≠c→impl_single.f 9 (orM [i7 a,i7 b,i7 c])=some (-1):=by decide +kernel
theorem SA:∀ a b c d:Fin 7,a≠b→a≠c→b≠c→a≠d→b≠d→c≠d→impl_single.f 9 (orM [i7 a,i7 b,i7 c,i7 d])=some (-1):=by decide +kernel
theorem WC:spec_l5Only.f 9 (addM [])=some (-1):=by decide +kernel
theorem II:∀ a:Fin 7,spec_l5Only.f 9 (addM [i7 a])=some (i7 a):=by decide +kernel
theorem BI:∀ a b:Fin 7,a≠b→spec_l5Only.f 9 (addM [i7 a,i7 b])=some (-1):=by decide +kernel
theorem IJ:∀ a b c:Fin 7,a≠b→a≠c→b≠c→spec_l5Only.f 9 (addM [i7 a,i7 b,i7 c])=some (-1):=by decide +kernel
theorem WD:∀ a b c d:Fin 7,a≠b→a≠c→b≠c→a≠d→b≠d→c≠d→spec_l5Only.f 9 (addM [i7 a,i7 b,i7 c,i7 d])=some (-1):=by decide +kernel
def dY (n:Nat):Int:=2 ^ n-1
theorem PG:∀ n:Fin 8,impl_fullSet.f (n.1:Int)=some (dY n.1):=by decide +kernel
theorem BJ:∀ n:Fin 8,0≤IntKind.u64.wrap (n.1:Int)∧wrap64 ((kS .i64 1 (IntKind.u64.wrap (n.1:Int)))-1)=dY n.1:=by decide +kernel
theorem SB:∀ n:Fin 8,∀ i:Fin 7,i.1<n.1→Go.bits .and .i64 (RF .i64 (dY n.1) (i7 i)) 1=1:=by decide +kernel
theorem SC:∀ n:Fin 8,∀ i:Fin 7,i.1<n.1→spec_l6Has.f (dY n.1) (i7 i)=some true:=by decide +kernel
def m3 (a b c:Int):Int:=Go.bits .or .i64 (Go.bits .or .i64 (kS .i64 1 a) (kS .i64 1 b)) (kS .i64 1 c)
theorem PI:∀ n:Fin 8,∀ p a b c:Fin 7,a.1<b.1→b.1<c.1→c.1<n.1→p.1<n.1→(Go.bits .and .i64 (Go.bits .andNot .i64 (dY n.1) (kS .i64 1 (i7 p))) (m3 (i7 a) (i7 b) (i7 c))=m3 (i7 a) (i7 b) (i7 c)↔p≠a∧p≠b∧p≠c):=by decide +kernel
def UN:List Bool→Int→Int→Int
 | [],_,m=>m
 | b::bs,i,m=>UN bs (i+1) (if b=true then m else Go.bits .or .i64 m (kS .i64 1 i))
def ED:List Bool→Int→Int→Int
 | [],_,m=>m
 | b::bs,i,m=>ED bs (i+1) (if b=true then m else wrap64 (m+kS .i64 1 (IntKind.u64.wrap i)))
def wH:List Bool→Int→List Int
 | [],_=>[]
 | b::bs,i=>if b=true then wH bs (i+1) else i::wH bs (i+1)
theorem MN:∀ a b c d e f g:Bool,impl_elementsOf.f 70 (UN [a,b,c,d,e,f,g] 0 0)=some (wH [a,b,c,d,e,f,g] 0):=by decide +kernel
theorem XM:∀ a b c d e f g:Bool,∀ k:Fin 7,spec_l6Has.f (ED [a,b,c,d,e,f,g] 0 0) (i7 k)=some (!([a,b,c,d,e,f,g].getD k.1 true)):=by decide +kernel
def VP (L:List Bool):List Bool:=L++List.replicate (7-L.length) true
theorem SD (m:Nat):∀ (i x:Int),UN (List.replicate m true) i x=x:=by
 induction m with
 | zero=>intro i x;rfl
 | succ m ih=>intro i x;exact ih _ _
theorem PJ (m:Nat):∀ (i x:Int),ED (List.replicate m true) i x=x:=by
 induction m with
 | zero=>intro i x;rfl
 | succ m ih=>intro i x;exact ih _ _
theorem PK (m:Nat):∀ (i:Int),wH (List.replicate m true) i=[]:=by
 induction m with
 | zero=>intro i;rfl
 | succ m ih=>intro i;exact ih _
theorem UO (L:List Bool) (m:Nat):∀ (i x:Int),UN (L++List.replicate m true) i x=UN L i x:=by
 induction L with
 | nil=>intro i x;exact SD m i x
 | cons b L ih=>intro i x;exact ih _ _
theorem KK (L:List Bool) (m:Nat):∀ (i x:Int),ED (L++List.replicate m true) i x=ED L i x:=by
 induction L with
 | nil=>intro i x;exact PJ m i x
 | cons b L ih=>intro i x;exact ih _ _
theorem KL (L:List Bool) (m:Nat):∀ (i:Int),wH (L++List.replicate m true) i=wH L i:=by
 induction L with
 | nil=>intro i;exact PK m i
 | cons b L ih =>
  intro i
  show (if b=true then wH (L++List.replicate m true) (i+1) else i::wH (L++List.replicate m true) (i+1))=if b=true then wH L (i+1) else i::wH L (i+1)
  rw [ih]
theorem SE {α:Type} (L:List α) (h:L.length=7):∃ a b c d e f g,L=[a,b,c,d,e,f,g]:=by
 match L,h with
 | [a,b,c,d,e,f,g],_=>exact ⟨a,b,c,d,e,f,g,rfl⟩
theorem KM (L:List Bool) (h:L.length≤7):impl_elementsOf.f 70 (UN L 0 0)=some (wH L 0):=by
 obtain ⟨a,b,c,d,e,f,g,hp⟩:=SE (VP L) (by unfold VP;simp;omega)
 have h1:=UO L (7-L.length) 0 0
 have h2:=KL L (7-L.length) 0
 rw [← h1,← h2,show L++List.replicate (7-L.length) true=_ from hp]
 exact MN a b c d e f g
theorem WE (L:List Bool) (h:L.length≤7) (k:Int) (h0:0≤k) (hk:k<L.length):spec_l6Has.f (ED L 0 0) k=some (!(L.getD k.toNat true)):=by
 obtain ⟨a,b,c,d,e,f,g,hp⟩:=SE (VP L) (by unfold VP;simp;omega)
 have h1:=KK L (7-L.length) 0 0
 obtain ⟨q,rfl⟩:=mW (a:=k) ⟨h0,by omega⟩
 have e2:L.getD (i7 q).toNat true=(VP L).getD q.1 true:=by
  unfold VP
  rw [List.getD_eq_getElem?_getD,List.getD_eq_getElem?_getD,List.getElem?_append_left (by show q.1<L.length;unfold i7 at hk;omega)]
  rfl
 rw [← h1,show L++List.replicate (7-L.length) true=_ from hp,e2,hp]
 exact XM a b c d e f g q
/-! ### the circuit of four elements -/
def T3 (u v w:Bool):ByteArray:=strOfNums [43,if u=true then 43 else 45,if v=true then 43 else 45,if w=true then 43 else 45]
theorem mG {n:Int} {X:Int→Int→Int→Int} (hX:IG n X) {i j k:Int} (hi:0≤i∧i<n) (hj:0≤j∧j<n) (hk:0≤k∧k<n) (hij:i≠j) (hjk:j≠k) (hik:i≠k):X i j k=1∨X i j k = -1:=hX.pm i j k hi.1 hi.2 hj.1 hj.2 hk.1 hk.2 hij hjk hik
theorem PM:∀ s1 s2 s3 s4:Int,(s1=1∨s1 = -1)→(s2=1∨s2 = -1)→(s3=1∨s3 = -1)→(s4=1∨s4 = -1)→(if s1 > 0 then strOfNums (([s1,wrap64 (-s2),s3,wrap64 (-s4)]:List Int).map lV) else rC (strOfNums (([s1,wrap64 (-s2),s3,wrap64 (-s4)]:List Int).map lV)))=T3 (decide (s1≠s2)) (decide (s1=s3)) (decide (s1≠s4)):=by
 rintro s1 s2 s3 s4 (rfl|rfl) (rfl|rfl) (rfl|rfl) (rfl|rfl) <;> kernel_rfl
theorem SF {n:Nat} (hn:3≤n∧n≤7) {X:Int→Int→Int→Int} (hX:IG (n:Int) X) {p a b c:Int} (hp:0≤p∧p<(n:Int)) (ha:0≤a∧a<(n:Int)) (hb:0≤b∧b<(n:Int)) (hc:0≤c∧c<(n:Int)) (hpa:p≠a) (hpb:p≠b) (hpc:p≠c) (hab:a≠b) (hac:a≠c) (hbc:b≠c) :
  JZ (tabX n X) p a b c=T3 (decide (X a b c≠X p b c)) (decide (X a b c=X p a c)) (decide (X a b c≠X p a b)):=by
 have e1:tabX n X (nB a b c)=X a b c:=sP hn hX _ a b c ha hb hc hab hbc hac
 have e2:tabX n X (nB p b c)=X p b c:=sP hn hX _ p b c hp hb hc hpb hbc hpc
 have e3:tabX n X (nB p a c)=X p a c:=sP hn hX _ p a c hp ha hc hpa hac hpc
 have e4:tabX n X (nB p a b)=X p a b:=sP hn hX _ p a b hp ha hb hpa hab hpb
 unfold JZ RT
 rw [e1,e2,e3,e4]
 exact PM _ _ _ _ (mG hX ha hb hc hab hbc hac) (mG hX hp hb hc hpb hbc hpc) (mG hX hp ha hc hpa hac hpc) (mG hX hp ha hb hpa hab hpb)
def alone (X:Int→Int→Int→Int) (p a b c:Int):Bool:=decide (X a b c=X p b c)&&decide (X a b c≠X p a c)&&decide (X a b c=X p a b)
def CE (u v w:Bool) (p a b c:Int):List Int:=p::((if u=true then [a] else [])++(if v=true then [b] else [])++(if w=true then [c] else []))
def vQ (u v w:Bool) (p a b c:Int):List Int:=(if u=true then [] else [a])++(if v=true then [] else [b])++(if w=true then [] else [c])
theorem NT (u v w:Bool):(T3 u v w).size=4:=by unfold T3;rw [strOfNums_size];rfl
theorem XN:∀ u v w:Bool,bt (T3 u v w) 0=43:=by decide +kernel
theorem XO:∀ u v w:Bool,(bt (T3 u v w) 1=43↔u=true):=by decide +kernel
theorem XP:∀ u v w:Bool,(bt (T3 u v w) 2=43↔v=true):=by decide +kernel
theorem XQ:∀ u v w:Bool,(bt (T3 u v w) 3=43↔w=true):=by decide +kernel
theorem SG (u v w:Bool) (p a b c:Int) (hp:0≤p) (ha:0≤a) (hb:0≤b) (hc:0≤c) (n:Int) (T:Nat→Int):dD 6 (T3 u v w) 0 0 [p,a,b,c] 4 0 n T=some (orM (CE u v w p a b c),orM (vQ u v w p a b c),n,T):=by
 have w0:wrap64 1=1:=by decide +kernel
 have w1:wrap64 2=2:=by decide +kernel
 have w2:wrap64 3=3:=by decide +kernel
 have w3:wrap64 4=4:=by decide +kernel
 have r0:rd [p,a,b,c] 0=p:=rfl
 have r1:rd [p,a,b,c] 1=a:=rfl
 have r2:rd [p,a,b,c] 2=b:=rfl
 have r3:rd [p,a,b,c] 3=c:=rfl
 cases u <;> cases v <;> cases w <;> simp [dD,NT,XN,XO,XP,XQ,w0,w1,w2,w3,r0,r1,r2,r3,hp,ha,hb,hc,CE,vQ,orM]
theorem oL {a b:Fin 7} (h:i7 a≠i7 b):a≠b:=fun e=>h (by rw [e])
theorem PN (u v w:Bool) {p a b c:Int} (hp:in7 p) (ha:in7 a) (hb:in7 b) (hc:in7 c) (hpa:p≠a) (hpb:p≠b) (hpc:p≠c) (hab:a≠b) (hac:a≠c) (hbc:b≠c) :
  ∃ x y,impl_single.f 9 (orM (CE u v w p a b c))=some x∧impl_single.f 9 (orM (vQ u v w p a b c))=some y∧(mx x y==p)=(!u && !v && !w):=by
 obtain ⟨p,rfl⟩:=mW hp
 obtain ⟨a,rfl⟩:=mW ha
 obtain ⟨b,rfl⟩:=mW hb
 obtain ⟨c,rfl⟩:=mW hc
 have pa:=oL hpa
 have pb:=oL hpb
 have pc:=oL hpc
 have ab:=oL hab
 have ac:=oL hac
 have bc:=oL hbc
 have p0:0≤i7 p:=by unfold i7;omega
 have a0:0≤i7 a:=by unfold i7;omega
 have b0:0≤i7 b:=by unfold i7;omega
 have c0:0≤i7 c:=by unfold i7;omega
 cases u <;> cases v <;> cases w
 ·exact ⟨_,_,zX p,zY a b c ab ac bc,by simp [mx];omega⟩
 ·exact ⟨_,_,sQ p c pc,sQ a b ab,by simp [mx];omega⟩
 ·exact ⟨_,_,sQ p b pb,sQ a c ac,by simp [mx];omega⟩
 ·exact ⟨_,_,zY p b c pb pc bc,zX a,by simp [mx];omega⟩
 ·exact ⟨_,_,sQ p a pa,sQ b c bc,by simp [mx];omega⟩
 ·exact ⟨_,_,zY p a c pa pc ac,zX b,by simp [mx];omega⟩
 ·exact ⟨_,_,zY p a b pa pb ab,zX c,by simp [mx];omega⟩
 ·exact ⟨_,_,SA p a b c pa pb ab pc ac bc,RH,by simp [mx];omega⟩
theorem KN (X:Int→Int→Int→Int) (p a b c:Int):(!(decide (X a b c≠X p b c)) && !(decide (X a b c=X p a c)) && !(decide (X a b c≠X p a b)))=alone X p a b c:=by
 unfold alone
 by_cases h1:X a b c=X p b c <;> by_cases h2:X a b c=X p a c <;> by_cases h3:X a b c=X p a b <;> simp [h1,h2,h3]
theorem KO {n:Nat} (hn:3≤n∧n≤7) {X:Int→Int→Int→Int} (hX:IG (n:Int) X) {p a b c:Int} (hp:0≤p∧p<(n:Int)) (ha:0≤a∧a<(n:Int)) (hb:0≤b∧b<(n:Int)) (hc:0≤c∧c<(n:Int)) (hpa:p≠a) (hpb:p≠b) (hpc:p≠c) (hab:a≠b) (hac:a≠c) (hbc:b≠c) :
  Ev (fun k=>impl_chi_isInside.f k (n:Int) (tabX n X) p a b c) (alone X p a b c,(n:Int),tabX n X):=by
 have ip:in7 p:=⟨by omega,by omega⟩
 have ia:in7 a:=⟨by omega,by omega⟩
 have ib:in7 b:=⟨by omega,by omega⟩
 have ic:in7 c:=⟨by omega,by omega⟩
 obtain ⟨x,y,hx,hy,hxy⟩:=PN (decide (X a b c≠X p b c)) (decide (X a b c=X p a c)) (decide (X a b c≠X p a b)) ip ia ib ic hpa hpb hpc hab hac hbc
 rw [KN] at hxy
 have hsp:impl_chi_split.f 6 (n:Int) (tabX n X) p a b c=some (orM (CE (decide (X a b c≠X p b c)) (decide (X a b c=X p a c)) (decide (X a b c≠X p a b)) p a b c),orM (vQ (decide (X a b c≠X p b c)) (decide (X a b c=X p a c)) (decide (X a b c≠X p a b)) p a b c),(n:Int),tabX n X):=by
  unfold impl_chi_split.f impl_chi_circuit.f
  rw [if_pos ⟨ip,ia,ib,ic⟩,SF hn hX hp ha hb hc hpa hpb hpc hab hac hbc]
  exact SG _ _ _ p a b c hp.1 ha.1 hb.1 hc.1 _ _
 have h9:impl_chi_isInside.f 9 (n:Int) (tabX n X) p a b c=some (alone X p a b c,(n:Int),tabX n X):=by
  unfold impl_chi_isInside.f impl_chi_inner.f
  have up:=impl_chi_split.mono (n:Int) (tabX n X) p a b c
  rw [up 8 _ (up 7 _ (up 6 _ hsp))]
  simp only [Option.bind_some]
  rw [hx,hy]
  simp only [Option.bind_some,hxy]
 exact yM (fun k=>impl_chi_isInside.mono _ _ _ _ _ _ k) h9
def zZ (X:Int→Int→Int→Int) (p:Int) (t:Int×Int×Int):Bool:=(decide (p≠t.1)&&decide (p≠t.2.1)&&decide (p≠t.2.2))&&alone X p t.1 t.2.1 t.2.2
def xN (n:Nat) (X:Int→Int→Int→Int) (p:Int):Bool:=(cJ n).any (zZ X p)
theorem GB {τ ρ:Type} (p:τ→Bool) (r1 r0:ρ) (L:List τ):uG (σ:=Unit) (fun _ t=>if p t=true then .inr r1 else .inl ()) (fun _=>r0) L ()=if L.any p=true then r1 else r0:=by
 induction L with
 | nil=>rfl
 | cons t L ih =>
  unfold uG
  by_cases h:p t=true
  ·simp [h]
  ·simp only [h,List.any_cons,Bool.false_or,if_false,Bool.false_eq_true];exact ih
theorem SI {n:Nat} (hn:3≤n∧n≤7) {p a b c:Int} (hp:0≤p∧p<(n:Int)) (ha:0≤a) (hab:a<b) (hbc:b<c) (hc:c<(n:Int)):(Go.bits .and .i64 (Go.bits .andNot .i64 (dY n) (kS .i64 1 p)) (m3 a b c)=m3 a b c)↔(p≠a∧p≠b∧p≠c):=by
 obtain ⟨p,rfl⟩:=mW (a:=p) ⟨hp.1,by omega⟩
 obtain ⟨a,rfl⟩:=mW (a:=a) ⟨ha,by omega⟩
 obtain ⟨b,rfl⟩:=mW (a:=b) ⟨by omega,by omega⟩
 obtain ⟨c,rfl⟩:=mW (a:=c) ⟨by omega,by omega⟩
 have h:=PI ⟨n,by omega⟩ p a b c (by unfold i7 at hab;omega) (by unfold i7 at hbc;omega) (by unfold i7 at hc;show c.1<n;omega) (by have:=hp.2;unfold i7 at this;show p.1<n;omega)
 rw [show dY n=dY (⟨n,by omega⟩:Fin 8).1 from rfl,h]
 have e:∀ x y:Fin 7,x≠y↔i7 x≠i7 y:=fun x y=>⟨fun h hh=>h (by apply Fin.ext;unfold i7 at hh;omega),fun h hh=>h (by rw [hh])⟩
 rw [e,e,e]
theorem PO {n:Nat} (hn:3≤n∧n≤7) {X:Int→Int→Int→Int} (hX:IG (n:Int) X) {p:Int} (hp:0≤p∧p<(n:Int)) :
  Ev (fun k=>impl_chi_inHull.f k (n:Int) (tabX n X) (Go.bits .andNot .i64 (dY n) (kS .i64 1 p)) p) (xN n X p,(n:Int),tabX n X):=by
 refine Ev.bind (tM n (by omega)) ?_
 have hlen:=vP n (by omega)
 have hlen':(((cJ n).map nP).length:Int)=((cJ n).length:Int):=by rw [List.length_map]
 have hf:=GB (zZ X p) (true,(n:Int),tabX n X) (false,(n:Int),tabX n X) (cJ n)
 have hv:(if (cJ n).any (zZ X p)=true then (true,(n:Int),tabX n X) else (false,(n:Int),tabX n X))=(xN n X p,(n:Int),tabX n X):=by
  unfold xN
  cases (cJ n).any (zZ X p) <;> rfl
 rw [hv] at hf
 rw [← hf]
 refine DK (fun k=>?_) (RW (σ:=Unit) (l0:=fun k _ i=>bX k (Go.bits .andNot .i64 (dY n) (kS .i64 1 p)) p ((cJ n).map nP) ((cJ n).length:Int) i (n:Int) (tabX n X)) (cJ n) (0,0,0) _ _ ?_ ?_ ())
 ·show _=bX k _ p _ _ 0 _ _
  rw [hlen']
 ·intro _ i h0 h1 hm r hT
  obtain ⟨t,ht⟩:∃ t,(cJ n).getD i.toNat (0,0,0)=t:=⟨_,rfl⟩
  obtain ⟨a,b,c⟩:=t
  rw [ht] at hm hT
  obtain ⟨ha,hab,hbc,hc⟩:=iW.1 hm
  have hr:aG ((cJ n).map nP) i=nP (a,b,c):=by
   unfold aG
   rw [EA nP _ _ (0,0,0) _ (by omega),ht]
  refine aQ (f:=fun q=>if p≠a∧p≠b∧p≠c then ((impl_chi_isInside.f q (n:Int) (tabX n X) p a b c).bind fun bt106=>(if bt106.1=true then (some (true,bt106.2.1,bt106.2.2)) else (bX q (Go.bits .andNot .i64 (dY n) (kS .i64 1 p)) p ((cJ n).map nP) ((cJ n).length:Int) (i+1) bt106.2.1 bt106.2.2))) else bX q (Go.bits .andNot .i64 (dY n) (kS .i64 1 p)) p ((cJ n).map nP) ((cJ n).length:Int) (i+1) (n:Int) (tabX n X)) (fun q=>?_) ?_
  ·simp only [bX]
   rw [hr,if_pos h1,if_pos h0,if_pos (by rw [hlen'];exact h1),if_pos (show 0≤(nP (a,b,c)).f0 from ha),if_pos (show 0≤(nP (a,b,c)).f1 by show 0≤b;omega),if_pos (show 0≤(nP (a,b,c)).f2 by show 0≤c;omega),w64 (by omega) (by omega)]
   show (if Go.bits .and .i64 (Go.bits .andNot .i64 (dY n) (kS .i64 1 p)) (m3 a b c)=m3 a b c then _ else _)=_
   simp only [SI hn hp ha hab hbc hc]
   rfl
  ·by_cases hd:p≠a∧p≠b∧p≠c
   ·refine bG hd (Ev.bind (KO hn hX hp ⟨ha,by omega⟩ ⟨by omega,by omega⟩ ⟨by omega,hc⟩ hd.1 hd.2.1 hd.2.2 (by omega) (by omega) (by omega)) ?_)
    have e:zZ X p (a,b,c)=alone X p a b c:=by unfold zZ;simp [hd.1,hd.2.1,hd.2.2]
    cases hal:alone X p a b c with
    | true =>
     have:r=(true,(n:Int),tabX n X):=BG hT (by rw [e,hal];rfl)
     subst this
     exact bG rfl (bL _)
    | false =>
     refine dK (by simp) ?_
     have hC:=kB (s':=()) hT (by rw [e,hal];rfl)
     exact hC
   ·refine dK hd ?_
    have hne:¬ zZ X p (a,b,c)=true:=by
     unfold zZ
     simp only [Bool.and_eq_true,decide_eq_true_eq]
     rintro ⟨⟨⟨x,y⟩,z⟩,_⟩
     exact hd ⟨x,y,z⟩
    have hC:=kB (s':=()) hT (if_neg hne)
    exact hC
 ·intro _
  refine aQ (f:=fun q=>some (false,(n:Int),tabX n X)) (fun q=>?_) (bL _)
  simp only [bX]
  rw [if_neg (by omega)]
theorem SJ (f:Int→Bool) (d:Nat):∀ (a m:Int),(gW a d).foldl (fun out i=>if f i=true then out else Go.bits .or .i64 out (kS .i64 1 i)) m=UN ((gW a d).map f) a m:=by
 induction d with
 | zero=>intro a m;rfl
 | succ d ih=>intro a m;exact ih (a+1) _
theorem IK {n:Nat} (hn:3≤n∧n≤7) {X:Int→Int→Int→Int} (hX:IG (n:Int) X) :
  Ev (fun k=>impl_chi_extremeIn.f k (n:Int) (tabX n X) (dY n)) (UN ((gW 0 n).map (xN n X)) 0 0,(n:Int),tabX n X):=by
 rw [← SJ]
 have hf:=mL (fun out i=>if xN n X i=true then out else Go.bits .or .i64 out (kS .i64 1 i)) (fun s:Int=>(s,(n:Int),tabX n X)) (gW 0 n) 0
 rw [← hf]
 refine gZ (σ:=Int) (l:=fun k s i=>bT k (dY n) s i (n:Int) (tabX n X)) (n:Int) (jY _) (C:=fun s r=>r=(s,(n:Int),tabX n X)) 0 ?_ ?_ n 0 (by omega) (by omega) 0 _ (rM (fun s t=>Sum.inl (if xN n X t=true then s else Go.bits .or .i64 s (kS .i64 1 t))) (fun s:Int=>(s,(n:Int),tabX n X)) (C:=fun s r=>r=(s,(n:Int),tabX n X)) (fun _=>rfl) (gW 0 n) 0)
 ·intro s i h0 h1 r hT
  have hbit:Go.bits .and .i64 (RF .i64 (dY n) i) 1=1:=by
   obtain ⟨q,rfl⟩:=mW (a:=i) ⟨h0,by omega⟩
   exact SB ⟨n,by omega⟩ q (by show q.1<n;unfold i7 at h1;omega)
  have hC:=kB hT rfl
  refine aQ (f:=fun q=>(impl_chi_inHull.f q (n:Int) (tabX n X) (Go.bits .andNot .i64 (dY n) (kS .i64 1 i)) i).bind fun bt101=>(if bt101.1=true then (bT q (dY n) s (i+1) bt101.2.1 bt101.2.2) else (bT q (dY n) (Go.bits .or .i64 s (kS .i64 1 i)) (i+1) bt101.2.1 bt101.2.2))) (fun q=>?_) (Ev.bind (PO hn hX ⟨h0,h1⟩) ?_)
  ·simp only [bT]
   rw [if_pos h1,if_pos h0,if_pos hbit,w64 (by omega) (by omega)]
  ·cases hi:xN n X i with
   | true=>rw [hi] at hC;exact bG rfl hC
   | false=>rw [hi] at hC;exact dK (by simp) hC
 ·intro s r hC
  subst hC
  refine aQ (f:=fun q=>some (s,(n:Int),tabX n X)) (fun q=>?_) (bL _)
  simp only [bT]
  rw [if_neg (by omega)]
def XR (n:Nat) (t:Int×Int×Int):Bool:=match spec_l3Index.f 20 (n:Int) t.1 t.2.1 t.2.2 with
 | some x=>decide (0≤x)&&(decide (x.toNat<(cJ n).length)&&((cJ n).getD x.toNat (0,0,0)==t))
 | none=>false
theorem WF:∀ n:Fin 8,(cJ n.1).all (XR n.1)=true:=by decide +kernel
theorem VQ {n:Nat} (hn:n≤7) {a b c:Int} (h0:0≤a) (h1:a<b) (h2:b<c) (h3:c<(n:Int)):∃ x:Int,spec_l3Index.f 20 (n:Int) a b c=some x∧0≤x∧x.toNat<(cJ n).length∧(cJ n).getD x.toNat (0,0,0)=(a,b,c):=by
 have h:=List.all_eq_true.1 (WF ⟨n,by omega⟩) (a,b,c) (iW.2 ⟨h0,h1,h2,h3⟩)
 unfold XR at h
 simp only at h
 cases e:spec_l3Index.f 20 (n:Int) a b c with
 | none=>rw [e] at h;cases h
 | some x =>
  rw [e] at h
  simp only [Bool.and_eq_true,decide_eq_true_eq,beq_iff_eq] at h
  exact ⟨x,rfl,h.1,h.2.1,h.2.2⟩
theorem oF (n:Nat) (X:Int→Int→Int→Int):(sgText n X).size=(cJ n).length:=by unfold sgText;rw [strOfNums_size,List.length_map]
theorem BK {n:Nat} (X:Int→Int→Int→Int) {x:Int} (h0:0≤x) (h1:x.toNat<(cJ n).length):bt (sgText n X) x=NS X ((cJ n).getD x.toNat (0,0,0)):=by
 unfold sgText
 rw [zV _ (fun x hx=>by obtain ⟨t,_,rfl⟩:=List.mem_map.1 hx;unfold NS;split <;> omega) _ h0 (by rw [List.length_map];omega),EA (NS X) _ _ (0,0,0) _ h1]
theorem VR {n:Nat} (hn:n≤7) {a b c x:Int} (h:spec_l3Index.f 20 (n:Int) a b c=some x):Ev (fun q=>spec_l3Index.f q (n:Int) a b c) x:=yM (fun k=>spec_l3Index.mono _ _ _ _ k) h
theorem NU {n:Nat} (hn:3≤n∧n≤7) {X:Int→Int→Int→Int} (hX:IG (n:Int) X) (a b c s:Int) (hs:s=1∨s = -1) (ha:0≤a) (hb:0≤b) (hab:a≠b) (hac:a<c) (hbc:b<c) (hc:c<(n:Int)):Ev (fun q=>fY q a b c s (n:Int) (sgText n X)) (s*X a b c):=by
 have pm:=hX.pm a b c ha (by omega) hb (by omega) (by omega) hc hab (by omega) (by omega)
 have e1:=hX.s1 a b c ha (by omega) hb (by omega) (by omega) hc hab (by omega) (by omega)
 by_cases h:a > b
 ·obtain ⟨x,hx,h0,h1,h2⟩:=VQ (n:=n) (by omega) hb h (by omega) hc
  have hb':=BK X h0 h1
  rw [h2] at hb'
  refine aQ (f:=fun q=>(spec_l3Index.f q (n:Int) b a c).bind fun t102=>(if 0≤t102 then (if t102<((sgText n X).size:Int) then (if (bt (sgText n X) t102)=45 then (some (wrap64 (-(wrap64 (-s))))) else (some (wrap64 (-s)))) else (none)) else (none))) (fun q=>by simp only [fY];rw [if_pos h]) (Ev.bind (VR (by omega) hx) (sM ?_))
  rw [if_pos h0,if_pos (by rw [oF];omega),hb']
  unfold NS
  simp only
  rcases pm with e|e <;> rcases hs with rfl|rfl <;> rw [e1,e] <;> decide +kernel
 ·obtain ⟨x,hx,h0,h1,h2⟩:=VQ (n:=n) (by omega) ha (show a<b by omega) hbc hc
  have hb':=BK X h0 h1
  rw [h2] at hb'
  refine aQ (f:=fun q=>(spec_l3Index.f q (n:Int) a b c).bind fun t103=>(if 0≤t103 then (if t103<((sgText n X).size:Int) then (if (bt (sgText n X) t103)=45 then (some (wrap64 (-s))) else (some s)) else (none)) else (none))) (fun q=>by simp only [fY];rw [if_neg h]) (Ev.bind (VR (by omega) hx) (sM ?_))
  rw [if_pos h0,if_pos (by rw [oF];omega),hb']
  unfold NS
  simp only
  rcases pm with e|e <;> rcases hs with rfl|rfl <;> rw [e] <;> decide +kernel
theorem NV {n:Nat} (hn:3≤n∧n≤7) {X:Int→Int→Int→Int} (hX:IG (n:Int) X) (a b c s:Int) (hs:s=1∨s = -1) (ha:0≤a) (hab:a<b) (hb:b<(n:Int)) (hc0:0≤c) (hc:c<(n:Int)) (hac:a≠c) (hbc:b≠c):Ev (fun q=>gR q a b c s (n:Int) (sgText n X)) (s*X a b c):=by
 by_cases h:b > c
 ·have e2:=hX.s2 a b c ha (by omega) (by omega) hb hc0 hc (by omega) hbc hac
  have hw:wrap64 (-s) = -s:=by rcases hs with rfl|rfl <;> decide +kernel
  have:=NU hn hX a c b (-s) (by omega) ha hc0 hac hab (by omega) hb
  rw [e2,Int.neg_mul_neg] at this
  exact aQ (f:=fun q=>fY q a c b (-s) (n:Int) (sgText n X)) (fun q=>by simp only [gR];rw [if_pos h,hw]) this
 ·exact aQ (f:=fun q=>fY q a b c s (n:Int) (sgText n X)) (fun q=>by simp only [gR];rw [if_neg h]) (NU hn hX a b c s hs ha (by omega) (by omega) (by omega) (by omega) hc)
theorem mX {n:Nat} (hn:3≤n∧n≤7) {X:Int→Int→Int→Int} (hX:IG (n:Int) X) {i j k:Int} (hi:0≤i∧i<(n:Int)) (hj:0≤j∧j<(n:Int)) (hk:0≤k∧k<(n:Int)) (hij:i≠j) (hjk:j≠k) (hik:i≠k) :
  Ev (fun q=>spec_l3At.f q (n:Int) (sgText n X) i j k) (X i j k):=by
 by_cases h:i > j
 ·have e1:=hX.s1 i j k hi.1 hi.2 hj.1 hj.2 hk.1 hk.2 hij hjk hik
  have:=NV hn hX j i k (-1) (Or.inr rfl) hj.1 h hi.2 hk.1 hk.2 hjk hik
  rw [e1] at this
  refine DK (fun q=>?_) (show Ev (fun q=>gR q j i k (-1) (n:Int) (sgText n X)) (X i j k) by simpa using this)
  unfold spec_l3At.f
  rw [if_pos h]
 ·have:=NV hn hX i j k 1 (Or.inl rfl) hi.1 (by omega) hj.2 hk.1 hk.2 hik hjk
  rw [Int.one_mul] at this
  refine DK (fun q=>?_) this
  unfold spec_l3At.f
  rw [if_neg h]
/-! ### circuits -/
theorem MO:∀ s1 s2 s3 s4:Int,(s1=1∨s1 = -1)→(s2=1∨s2 = -1)→(s3=1∨s3 = -1)→(s4=1∨s4 = -1) →
  ((spec_l3Byte.f (wrap64 ((wrap64 (-s1))*s2))).bind fun t104=>(if 1+t104.size≤9223372036854775807 then ((spec_l3Byte.f (wrap64 (s1*s3))).bind fun t106=>(if ((⟨#[43]⟩:ByteArray)++t104).size+t106.size≤9223372036854775807 then ((spec_l3Byte.f (wrap64 ((wrap64 (-s1))*s4))).bind fun t108=>(if (((⟨#[43]⟩:ByteArray)++t104)++t106).size+t108.size≤9223372036854775807 then (some ((((⟨#[43]⟩:ByteArray)++t104)++t106)++t108)) else (none))) else (none))) else (none)))=some (T3 (decide (s1≠s2)) (decide (s1=s3)) (decide (s1≠s4))):=by
 rintro s1 s2 s3 s4 (rfl|rfl) (rfl|rfl) (rfl|rfl) (rfl|rfl) <;> kernel_rfl
theorem zH {n:Nat} (hn:3≤n∧n≤7) {X:Int→Int→Int→Int} (hX:IG (n:Int) X) {p a b c:Int} (hp:0≤p∧p<(n:Int)) (ha:0≤a∧a<(n:Int)) (hb:0≤b∧b<(n:Int)) (hc:0≤c∧c<(n:Int)) (hpa:p≠a) (hpb:p≠b) (hpc:p≠c) (hab:a≠b) (hac:a≠c) (hbc:b≠c) :
  Ev (fun k=>spec_l4Circuit.f k (n:Int) (sgText n X) p a b c) (T3 (decide (X a b c≠X p b c)) (decide (X a b c=X p a c)) (decide (X a b c≠X p a b))):=by
 obtain ⟨k1,h1⟩:=mX hn hX ha hb hc hab hbc hac
 obtain ⟨k2,h2⟩:=mX hn hX hp hb hc hpb hbc hpc
 obtain ⟨k3,h3⟩:=mX hn hX hp ha hc hpa hac hpc
 obtain ⟨k4,h4⟩:=mX hn hX hp ha hb hpa hab hpb
 refine ⟨k1+k2+k3+k4,fun k hk=>?_⟩
 show spec_l4Circuit.f k _ _ _ _ _ _=_
 have g1:spec_l3At.f k (n:Int) (sgText n X) a b c=some _:=h1 k (by omega)
 have g2:spec_l3At.f k (n:Int) (sgText n X) p b c=some _:=h2 k (by omega)
 have g3:spec_l3At.f k (n:Int) (sgText n X) p a c=some _:=h3 k (by omega)
 have g4:spec_l3At.f k (n:Int) (sgText n X) p a b=some _:=h4 k (by omega)
 unfold spec_l4Circuit.f
 rw [g1,g2,g3,g4]
 simp only [Option.bind_some]
 exact MO _ _ _ _ (mG hX ha hb hc hab hbc hac) (mG hX hp hb hc hpb hbc hpc) (mG hX hp ha hc hpa hac hpc) (mG hX hp ha hb hpa hab hpb)
theorem u7 {a:Int} (h:in7 a):0≤IntKind.u64.wrap a:=by
 obtain ⟨q,rfl⟩:=mW h
 revert q
 decide +kernel
theorem PP (u v w:Bool) (p a b c:Int) (hp:in7 p) (ha:in7 a) (hb:in7 b) (hc:in7 c):dB 6 [p,a,b,c] (T3 u v w) 0 0 0=some (addM (CE u v w p a b c),addM (vQ u v w p a b c)):=by
 have w0:wrap64 1=1:=by decide +kernel
 have w1:wrap64 2=2:=by decide +kernel
 have w2:wrap64 3=3:=by decide +kernel
 have w3:wrap64 4=4:=by decide +kernel
 have r0:rd [p,a,b,c] 0=p:=rfl
 have r1:rd [p,a,b,c] 1=a:=rfl
 have r2:rd [p,a,b,c] 2=b:=rfl
 have r3:rd [p,a,b,c] 3=c:=rfl
 have hp:=u7 hp
 have ha:=u7 ha
 have hb:=u7 hb
 have hc:=u7 hc
 cases u <;> cases v <;> cases w <;> simp [dB,NT,XN,XO,XP,XQ,w0,w1,w2,w3,r0,r1,r2,r3,hp,ha,hb,hc,CE,vQ,addM]
theorem UP {x:Int} (h:0≤x):spec_l1Max.f x (-1)=some x:=by unfold spec_l1Max.f;first|rw [if_pos (by omega)]|(simp;omega)
theorem EE {x:Int} (h:0≤x):spec_l1Max.f (-1) x=some x:=by unfold spec_l1Max.f;first|rw [if_neg (by omega)]|(simp;omega)
theorem AB:spec_l1Max.f (-1) (-1)=some (-1):=by decide +kernel
theorem SK (u v w:Bool) {p a b c:Int} (hp:in7 p) (ha:in7 a) (hb:in7 b) (hc:in7 c) (hpa:p≠a) (hpb:p≠b) (hpc:p≠c) (hab:a≠b) (hac:a≠c) (hbc:b≠c) :
  ∃ x y z,spec_l5Only.f 9 (addM (CE u v w p a b c))=some x∧spec_l5Only.f 9 (addM (vQ u v w p a b c))=some y∧spec_l1Max.f x y=some z∧decide (z=p)=(!u && !v && !w):=by
 obtain ⟨p,rfl⟩:=mW hp
 obtain ⟨a,rfl⟩:=mW ha
 obtain ⟨b,rfl⟩:=mW hb
 obtain ⟨c,rfl⟩:=mW hc
 have pa:=oL hpa
 have pb:=oL hpb
 have pc:=oL hpc
 have ab:=oL hab
 have ac:=oL hac
 have bc:=oL hbc
 have p0:0≤i7 p:=by unfold i7;omega
 have a0:0≤i7 a:=by unfold i7;omega
 have b0:0≤i7 b:=by unfold i7;omega
 have c0:0≤i7 c:=by unfold i7;omega
 cases u <;> cases v <;> cases w
 ·exact ⟨_,_,_,II p,IJ a b c ab ac bc,UP p0,by simp⟩
 ·exact ⟨_,_,_,BI p c pc,BI a b ab,AB,by simp;omega⟩
 ·exact ⟨_,_,_,BI p b pb,BI a c ac,AB,by simp;omega⟩
 ·exact ⟨_,_,_,IJ p b c pb pc bc,II a,EE a0,by simp;omega⟩
 ·exact ⟨_,_,_,BI p a pa,BI b c bc,AB,by simp;omega⟩
 ·exact ⟨_,_,_,IJ p a c pa pc ac,II b,EE b0,by simp;omega⟩
 ·exact ⟨_,_,_,IJ p a b pa pb ab,II c,EE c0,by simp;omega⟩
 ·exact ⟨_,_,_,WD p a b c pa pb ab pc ac bc,WC,AB,by simp;omega⟩
theorem MP {n:Nat} (hn:3≤n∧n≤7) {X:Int→Int→Int→Int} (hX:IG (n:Int) X) {p a b c:Int} (hp:0≤p∧p<(n:Int)) (ha:0≤a∧a<(n:Int)) (hb:0≤b∧b<(n:Int)) (hc:0≤c∧c<(n:Int)) (hpa:p≠a) (hpb:p≠b) (hpc:p≠c) (hab:a≠b) (hac:a≠c) (hbc:b≠c) :
  ∃ z,Ev (fun k=>spec_l5Inner.f k (n:Int) (sgText n X) [p,a,b,c]) z∧(z=p↔alone X p a b c=true):=by
 have ip:in7 p:=⟨by omega,by omega⟩
 have ia:in7 a:=⟨by omega,by omega⟩
 have ib:in7 b:=⟨by omega,by omega⟩
 have ic:in7 c:=⟨by omega,by omega⟩
 obtain ⟨x,y,z,hx,hy,hm,hz⟩:=SK (decide (X a b c≠X p b c)) (decide (X a b c=X p a c)) (decide (X a b c≠X p a b)) ip ia ib ic hpa hpb hpc hab hac hbc
 rw [KN] at hz
 refine ⟨z,?_,by rw [← hz];simp⟩
 have hsp:Ev (fun k=>spec_l5Split.f k (n:Int) (sgText n X) [p,a,b,c]) (addM (CE (decide (X a b c≠X p b c)) (decide (X a b c=X p a c)) (decide (X a b c≠X p a b)) p a b c),addM (vQ (decide (X a b c≠X p b c)) (decide (X a b c=X p a c)) (decide (X a b c≠X p a b)) p a b c)):=by
  refine bG (show 0<(([p,a,b,c]:List Int).length:Int) by show (0:Int)<4;omega) (bG (show 1<(([p,a,b,c]:List Int).length:Int) by show (1:Int)<4;omega) (bG (show 2<(([p,a,b,c]:List Int).length:Int) by show (2:Int)<4;omega) (bG (show 3<(([p,a,b,c]:List Int).length:Int) by show (3:Int)<4;omega) ?_)))
  refine Ev.bind (zH hn hX hp ha hb hc hpa hpb hpc hab hac hbc) ?_
  exact yM (fun k=>(oZ k) _ _ _ _ _) (PP _ _ _ p a b c ip ia ib ic)
 refine Ev.bind hsp (Ev.bind (yM (fun k=>spec_l5Only.mono _ k) hx) (Ev.bind (yM (fun k=>spec_l5Only.mono _ k) hy) (sM ?_)))
 rw [hm]
 rfl
theorem vR {n:Nat} (hn:3≤n∧n≤7) {i:Int} (h0:0≤i) (h1:i<(n:Int)):spec_l6Has.f (dY n) i=some true:=by
 obtain ⟨q,rfl⟩:=mW (a:=i) ⟨h0,by omega⟩
 exact SC ⟨n,by omega⟩ q (by show q.1<n;unfold i7 at h1;omega)
theorem MQ {τ:Type} (p:τ→Bool) (L:List τ):uG (σ:=Unit) (fun _ t=>if p t=true then .inr true else .inl ()) (fun _=>false) L ()=L.any p:=by
 rw [GB p true false L]
 cases L.any p <;> rfl
theorem NW {n:Nat} (hn:3≤n∧n≤7) {X:Int→Int→Int→Int} (hX:IG (n:Int) X) {p:Int} (hp:0≤p∧p<(n:Int)) :
  Ev (fun k=>spec_l6In.f k (n:Int) (sgText n X) (dY n) p) (xN n X p):=by
 unfold xN
 rw [← MQ]
 refine KE (σ:=Unit) (l0:=fun q _ i=>jQ q (dY n) p i (n:Int) (sgText n X)) (l1:=fun q _ i j=>jG q (dY n) p i j (n:Int) (sgText n X)) (l2:=fun q _ i j k=>eA q (dY n) p i j k (n:Int) (sgText n X)) n _ _ ?_ ?_ ?_ ?_ ?_ ?_ ()
 ·intro _ a b c ha hab hbc hc r hT
  by_cases hd:p≠a∧p≠b∧p≠c
  ·obtain ⟨z,hz,hzp⟩:=MP hn hX hp ⟨ha,by omega⟩ (show 0≤b∧b<(n:Int) by omega) (show 0≤c∧c<(n:Int) by omega) hd.1 hd.2.1 hd.2.2 (by omega) (by omega) (by omega)
   have e:zZ X p (a,b,c)=alone X p a b c:=by unfold zZ;simp [hd.1,hd.2.1,hd.2.2]
   refine aQ (f:=fun q=>(spec_l5Inner.f q (n:Int) (sgText n X) [p,a,b,c]).bind fun t108=>(if t108=p then (some true) else (eA q (dY n) p a b (c+1) (n:Int) (sgText n X)))) (fun q=>?_) (Ev.bind hz ?_)
   ·simp only [eA]
    rw [if_pos hc,if_neg hd.1,if_neg hd.2.1,if_neg hd.2.2,vR hn ha (by omega),vR hn (show 0≤b by omega) (by omega),vR hn (show 0≤c by omega) hc,w64 (by omega) (by omega)]
    rfl
   ·cases hal:alone X p a b c with
    | true =>
     have:r=true:=BG hT (by rw [e,hal];rfl)
     subst this
     exact bG (hzp.2 hal) (bL _)
    | false =>
     have hC:=kB (s':=()) hT (by rw [e,hal];rfl)
     exact dK (fun h=>by rw [hzp.1 h] at hal;cases hal) hC
  ·have hne:¬ zZ X p (a,b,c)=true:=by
    unfold zZ
    simp only [Bool.and_eq_true,decide_eq_true_eq]
    rintro ⟨⟨⟨x,y⟩,z⟩,_⟩
    exact hd ⟨x,y,z⟩
   have hC:=kB (s':=()) hT (if_neg hne)
   refine aQ (f:=fun q=>eA q (dY n) p a b (c+1) (n:Int) (sgText n X)) (fun q=>?_) hC
   simp only [eA]
   rw [if_pos hc,w64 (by omega) (by omega)]
   by_cases h1:p=a
   ·rw [if_pos h1]
   ·rw [if_neg h1]
    by_cases h2:p=b
    ·rw [if_pos h2]
    ·rw [if_neg h2,if_pos (by omega)]
 ·intro _ i j hi hij hj r hC
  refine aQ (f:=fun q=>jG q (dY n) p i (j+1) (n:Int) (sgText n X)) (fun q=>?_) hC
  simp only [eA]
  rw [if_neg (by omega),w64 (by omega) (by omega)]
 ·intro _ i j hi hij hj r hC
  refine aQ (f:=fun q=>eA q (dY n) p i j (j+1) (n:Int) (sgText n X)) (fun q=>?_) hC
  simp only [jG]
  rw [if_pos (by omega),w64 (by omega) (by omega)]
 ·intro _ i hi hi' r hC
  refine aQ (f:=fun q=>jQ q (dY n) p (i+1) (n:Int) (sgText n X)) (fun q=>?_) hC
  simp only [jG]
  rw [if_neg (by omega),w64 (by omega) (by omega)]
 ·intro _ i hi hi' r hC
  refine aQ (f:=fun q=>jG q (dY n) p i (i+1) (n:Int) (sgText n X)) (fun q=>?_) hC
  simp only [jQ]
  rw [if_pos (by omega),w64 (by omega) (by omega)]
 ·intro _
  refine aQ (f:=fun q=>some false) (fun q=>?_) (bL _)
  simp only [jQ]
  rw [if_neg (by omega)]
theorem PQ (f:Int→Bool) (d:Nat):∀ (a m:Int),(gW a d).foldl (fun out i=>if f i=true then out else wrap64 (out+kS .i64 1 (IntKind.u64.wrap i))) m=ED ((gW a d).map f) a m:=by
 induction d with
 | zero=>intro a m;rfl
 | succ d ih=>intro a m;exact ih (a+1) _
theorem AC {n:Nat} (hn:3≤n∧n≤7) {X:Int→Int→Int→Int} (hX:IG (n:Int) X) :
  Ev (fun k=>spec_l6Extreme.f k (n:Int) (sgText n X) (dY n)) (ED ((gW 0 n).map (xN n X)) 0 0):=by
 rw [← PQ]
 have hf:=mL (fun out i=>if xN n X i=true then out else wrap64 (out+kS .i64 1 (IntKind.u64.wrap i))) (fun s:Int=>s) (gW 0 n) 0
 rw [← hf]
 refine gZ (σ:=Int) (l:=fun k s i=>dE k (dY n) s i (n:Int) (sgText n X)) (n:Int) (jY _) (C:=fun s r=>r=s) 0 ?_ ?_ n 0 (by omega) (by omega) 0 _ (rM (fun s t=>Sum.inl (if xN n X t=true then s else wrap64 (s+kS .i64 1 (IntKind.u64.wrap t)))) (fun s:Int=>s) (C:=fun s r=>r=s) (fun _=>rfl) (gW 0 n) 0)
 ·intro s i h0 h1 r hT
  have hC:=kB hT rfl
  refine aQ (f:=fun q=>(spec_l6In.f q (n:Int) (sgText n X) (dY n) i).bind fun t103=>(if t103=true then (dE q (dY n) s (i+1) (n:Int) (sgText n X)) else (if 0≤(IntKind.u64.wrap i) then (dE q (dY n) (wrap64 (s+(kS .i64 1 (IntKind.u64.wrap i)))) (i+1) (n:Int) (sgText n X)) else (none)))) (fun q=>?_) (Ev.bind (NW hn hX ⟨h0,h1⟩) ?_)
  ·simp only [dE]
   rw [if_pos h1,vR hn h0 h1,w64 (by omega) (by omega)]
   rfl
  ·cases hi:xN n X i with
   | true=>rw [hi] at hC;exact bG rfl hC
   | false=>rw [hi] at hC;exact dK (by simp) (bG (u7 ⟨h0,by omega⟩) hC)
 ·intro s r hC
  rw [show r=s from hC]
  refine aQ (f:=fun q=>some s) (fun q=>?_) (bL _)
  simp only [dE]
  rw [if_neg (by omega)]
/-! ### signs that come from points -/
structure XS (n:Nat) (X:Int→Int→Int→Int):Prop where
 chi:IG (n:Int) X
 br:∀ a b c d e:Int,(0≤a∧a<(n:Int))→(0≤b∧b<(n:Int))→(0≤c∧c<(n:Int))→(0≤d∧d<(n:Int))→(0≤e∧e<(n:Int))→a≠b→a≠c→a≠d→a≠e→b≠c→b≠d→b≠e→c≠d→c≠e→d≠e→¬ (X a b c*X a d e=X a b e*X a c d∧X a b e*X a c d = -X a b d*X a c e)
 ac:∀ p a b c:Int,0≤p→p<a→a<b→b<c→c<(n:Int)→¬ (X a b c≠X p b c∧X a b c=X p a c∧X a b c≠X p a b)
theorem vS (l:PL) (i j k:Int) (h:sV l i j k≠0):(sg l i j k=1∧0<sV l i j k)∨(sg l i j k = -1∧sV l i j k<0):=by
 unfold sg
 by_cases z:0<sV l i j k
 ·exact Or.inl ⟨if_pos z,z⟩
 ·exact Or.inr ⟨if_neg z,by omega⟩
theorem YR (l:PL) (a b c d e:Int):sV l a b c*sV l a d e-sV l a b d*sV l a c e+sV l a b e*sV l a c d=0:=by unfold sV;grind
theorem XT (l:PL) (p a b c:Int):sV l a b c-sV l p b c+sV l p a c-sV l p a b=0:=by unfold sV;grind
theorem IL {x y s t:Int} (hx:(s=1∧0<x)∨(s = -1∧x<0)) (hy:(t=1∧0<y)∨(t = -1∧y<0)):(s*t=1∧0<x*y)∨(s*t = -1∧x*y<0):=by
 rcases hx with ⟨rfl,hx⟩|⟨rfl,hx⟩ <;> rcases hy with ⟨rfl,hy⟩|⟨rfl,hy⟩
 ·exact Or.inl ⟨rfl,Int.mul_pos hx hy⟩
 ·exact Or.inr ⟨rfl,Int.mul_neg_of_pos_of_neg hx hy⟩
 ·exact Or.inr ⟨rfl,Int.mul_neg_of_neg_of_pos hx hy⟩
 ·exact Or.inl ⟨rfl,Int.mul_pos_of_neg_of_neg hx hy⟩
theorem pQ.ord {l:PL} (h:pQ l):XS l.length (sg l):=by
 refine ⟨h.chi,?_,?_⟩
 ·intro a b c d e ha hb hc hd he hab hac had hae hbc hbd hbe hcd hce hde ⟨h1,h2⟩
  have s:=fun i j k (hi:0≤i∧i<(l.length:Int)) (hj:0≤j∧j<(l.length:Int)) (hk:0≤k∧k<(l.length:Int)) hij hjk hik=>vS l i j k (h.nz i j k hi.1 hi.2 hj.1 hj.2 hk.1 hk.2 hij hjk hik)
  have p1:=IL (s a b c ha hb hc hab hbc hac) (s a d e ha hd he had hde hae)
  have p2:=IL (s a b d ha hb hd hab hbd had) (s a c e ha hc he hac hce hae)
  have p3:=IL (s a b e ha hb he hab hbe hae) (s a c d ha hc hd hac hcd had)
  have e0:=YR l a b c d e
  rw [Int.neg_mul] at h2
  omega
 ·intro p a b c hp hpa hab hbc hc ⟨h1,h2,h3⟩
  have s:=fun i j k (hi:0≤i∧i<(l.length:Int)) (hj:0≤j∧j<(l.length:Int)) (hk:0≤k∧k<(l.length:Int)) hij hjk hik=>vS l i j k (h.nz i j k hi.1 hi.2 hj.1 hj.2 hk.1 hk.2 hij hjk hik)
  have q1:=s a b c (by omega) (by omega) (by omega) (by omega) (by omega) (by omega)
  have q2:=s p b c (by omega) (by omega) (by omega) (by omega) (by omega) (by omega)
  have q3:=s p a c (by omega) (by omega) (by omega) (by omega) (by omega) (by omega)
  have q4:=s p a b (by omega) (by omega) (by omega) (by omega) (by omega) (by omega)
  have e0:=XT l p a b c
  omega
end Go.Proofs.YteaagaekdkolnaaGreat.Pure

