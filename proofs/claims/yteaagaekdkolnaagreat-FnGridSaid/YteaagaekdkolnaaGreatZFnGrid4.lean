/- A part of the proof of FnGrid: printed contracts and plain laws, joined by a program of this session. -/
import Derived.Test.YteaagaekdkolnaaGreatZFnGrid3
namespace Go.Proofs.YteaagaekdkolnaaGreat.P
open Go.RowKit Go.Proofs.YteaagaekdkolnaaGreatW.PrintWords Go.Proofs.YteaagaekdkolnaaGreatW.PrintLast Go.Proofs.YteaagaekdkolnaaGreatW.PrintMore
attribute [local go_sem] max2_int min2_int max_two min_two max_three min_three max_four min_four
set_option linter.unusedVariables false
set_option linter.unusedSimpArgs false
/-! ### spec_SignsOf: function 25 -/
mutual
def gL:Nat→List (cF)→Int→Int→ByteArray→Option (Int×ByteArray×Bool)
 | 0,_,_,_,_=>none
 | k+1,x0,x5,x104000,x104001=>if x5<(x0.length:Int) then (gM k x0 x5 (wrap64 (x5+1)) x104000 x104001) else (some (x104000,x104001,true))
def gM:Nat→List (cF)→Int→Int→Int→ByteArray→Option (Int×ByteArray×Bool)
 | 0,_,_,_,_,_=>none
 | k+1,x0,x5,x6,x104000,x104001=>if x6<(x0.length:Int) then (eX k x0 x5 x6 (wrap64 (x6+1)) x104000 x104001) else (gL k x0 (wrap64 (x5+1)) x104000 x104001)
def eX:Nat→List (cF)→Int→Int→Int→Int→ByteArray→Option (Int×ByteArray×Bool)
 | 0,_,_,_,_,_,_=>none
 | k+1,x0,x5,x6,x7,x104000,x104001=>if x7<(x0.length:Int) then (if 0≤x5 then (if x5<(x0.length:Int) then (if 0≤x6 then (if x6<(x0.length:Int) then (if 0≤x7 then ((spec_l2Area.f ((aC x0 x5).f0) ((aC x0 x5).f1) ((aC x0 x6).f0) ((aC x0 x6).f1) ((aC x0 x7).f0) ((aC x0 x7).f1)).bind fun t107=>((spec_l3Byte.f t107).bind fun t108=>(if x104001.size+t108.size≤9223372036854775807 then (eX k x0 x5 x6 (wrap64 (x7+1)) x104000 (x104001++t108)) else (none)))) else (none)) else (none)) else (none)) else (none)) else (none)) else (gM k x0 x5 (wrap64 (x6+1)) x104000 x104001)
end
def spec_SignsOf.f (k:Nat) (l0:List (cF)):Option (Int×ByteArray×Bool):=(spec_ArePoints.f k l0).bind fun t102=>(if t102=true then (gL k l0 0 (l0.length:Int) (⟨#[]⟩:ByteArray)) else (some (0,(⟨#[]⟩:ByteArray),false)))
def sB:Bool×List (List Nat×List Nat):=(true,[([],[]),([0],[0]),([],[]),([],[]),([2,3],[2,3]),([4],[4]),([],[]),([],[]),([6,7],[6,7]),([8],[8]),([],[]),([],[]),([10,11],[10,11]),([12],[12]),([5,9,13],[5,9,13]),([14,14],[14]),([1,15],[1,15]),([0,1,2,3,4,5,6,7,8,9,10,11,12,13,14,15,16],[]),([17,16,15,0,1,2,3,4,5,6,7,8,9,10,11,12,13,14,15,16],[16,17])])
def AV:List Nat:=[0,1,0,0,12,28,0,0,192,448,0,0,3072,7168,16380,32764,65535,131071,262143]
theorem xH:iQ .any (iS Tryz.f25 13)=sB:=by kernel_rfl
theorem wR:dM sB.2 AV=true:=by kernel_rfl
set_option maxHeartbeats 8000000 in
set_option maxRecDepth 100000 in
theorem kV (k : Nat) (A0 : Option Addr) (c0 : Nat) (l0 : List (cF)) (r1 : Int) (r2 : ByteArray) (r3 : Bool) (w : World) (hr0 : Kd.C jW w A0 l0.length l0) (hc0 : l0.length ≤ c0) (h : spec_SignsOf.f k l0 = some (r1, r2, r3)) :
  Calls Tryz.prog 25 #[.slice A0 l0.length c0] w fun e w'=>e=.returned (.tuple #[.agg #[.int .i64 r1,.string r2],.bool r3])∧Below w.heap.size w w':=by
 have hu41:=Tryz.underlying41
 have hu28:=Tryz.underlying28
 have HR0:=aE hr0
 have HC0:=aE hc0
 clear hr0 hc0
 have HB:=aE (Below.refl w.heap.size w)
 unfold spec_SignsOf.f at h
 have H:=h
 clear h
 replace H:=DB H
 obtain ⟨t102,A20,H⟩:=H
 replace H:(if t102=true then (gL k l0 0 (l0.length:Int) (⟨#[]⟩:ByteArray)) else (some (0,(⟨#[]⟩:ByteArray),false)))=some (r1,r2,r3):=H
 have A2:=aE A20
 clear A20
 by_cases c3:t102=true
 ·subst c3
  rw [if_pos rfl] at H
  have H':=aE H
  clear H
  go_enter Tryz.func25,Tryz.ntmps25
  go_wp2_with (first|((with_reducible refine aN (N:=2) rfl ?_);refine bV (N:=2) #[.int .i64 0,.string (⟨#[]⟩:ByteArray)] 41 ?_;intro gb101 hg w4 hbox hb;have BK101:=aE (hbox);have GW101:=aE ((dX HB hg));have GE101:=aE ((dX HB hg));replace HB:=aE (aD (aX HB) hb);clear hb hbox hg)|((with_reducible refine aJ (f:=23) rfl ?_);refine aV (some 9) Tryz.func23 #[.slice A0 l0.length c0] ?_;(with_reducible refine (cB k _ _ l0 true _ ?side1 ?side2 A2.out).mono ?_);(case side1=>exact kJ (Kd.C_below HR0.out HB.out));(case side2=>exact HC0.out);rintro e w5 ⟨rfl,hb⟩;refine ⟨_,rfl,?_⟩;replace BK101:=aE (bB BK101 hb);replace HB:=aE (aD (aX HB) hb);(try clear hb))|((with_reducible refine aN (N:=4) rfl ?_);refine bV (N:=4) #[.int .i64 0,.string (⟨#[]⟩:ByteArray)] 41 ?_;intro gb103 hg w6 hbox hb;have BK103:=aE (hbox);have GW103:=aE ((dX HB hg));have GE103:=aE ((dX HB hg));replace HB:=aE (aD (aX HB) hb);have NB101_103:=aE ((iX BK101 hg));have NB103_101:=aE ((iY BK101 hg));replace BK101:=aE (bB BK101 hb);clear hb hbox hg;have hnb7:=NB103_101.out;have hnc7:=NB101_103.out;have hcz8_0:=aW BK103 0;have hcz8_1:=aW BK103 1;have hfz8_0:=aA BK103.out 0;have hfz8_1:=aA BK103.out 1))
  go_loopg [5] k (fun kq v5 w'=>∃ (x5_1:Int) (x104001_1:ByteArray),v5=.int .i64 x5_1∧Aside0 (gL kq l0 x5_1 (l0.length:Int) x104001_1=some (r1,r2,r3))∧Aside0 (kq≤k)∧Aside0 (w'.heap[gb101]? = some (.cells #[.int .i64 0,.string (⟨#[]⟩:ByteArray)] 41 (0,0)))∧Aside0 (w'.heap[gb103]? = some (.cells #[.int .i64 (l0.length:Int),.string x104001_1] 41 (0,0)))∧Aside0 (Below w.heap.size w w'))
  case atStart=>exact ⟨(0),((⟨#[]⟩:ByteArray)),aH,H',⟨Nat.le_refl _⟩,⟨jR BK101⟩,⟨jR BK103⟩,⟨aX HB⟩⟩
  case round =>
   clear H'
   try clear c3
   try clear hcz8_0
   try clear hcz8_1
   try clear hfz8_0
   try clear hfz8_1
   obtain ⟨x5_1,x104001_1,rfl,HA,HK1,BK101,BK103,HB⟩:=hrel
   cases gk with
   | zero=>exact absurd HA.out (by simp [gL])
   | succ k1 =>
    have H:=HA.out
    clear HA
    simp only [gL] at H
    rcases eV H with ⟨c9b0,H⟩|⟨c9b0,H⟩
    ·have H' := aE H
     clear H
     go_wp2
     go_loopg [6] k1 (fun kq v6 w'=>∃ (x6_2:Int) (x104001_2:ByteArray),v6=.int .i64 x6_2∧Aside0 (gM kq l0 x5_1 x6_2 (l0.length:Int) x104001_2=some (r1,r2,r3))∧Aside0 (kq≤k1)∧Aside0 (w'.heap[gb101]? = some (.cells #[.int .i64 0,.string (⟨#[]⟩:ByteArray)] 41 (0,0)))∧Aside0 (w'.heap[gb103]? = some (.cells #[.int .i64 (l0.length:Int),.string x104001_2] 41 (0,0)))∧Aside0 (Below w.heap.size w w'))
     case atStart=>exact ⟨(wrap64 (x5_1+1)),(x104001_1),aH,H',⟨Nat.le_refl _⟩,⟨fO BK101⟩,⟨fO BK103⟩,⟨aX HB⟩⟩
     case round =>
      clear H'
      try clear c3
      try clear c9b0
      try clear hcz8_0
      try clear hcz8_1
      try clear hfz8_0
      try clear hfz8_1
      obtain ⟨x6_2,x104001_2,rfl,HA,HK2,BK101,BK103,HB⟩:=hrel
      cases gk with
      | zero=>exact absurd HA.out (by simp [gM])
      | succ k2 =>
       have H:=HA.out
       clear HA
       simp only [gM] at H
       rcases eV H with ⟨c10b0,H⟩|⟨c10b0,H⟩
       ·have H':=aE H
        clear H
        go_wp2
        go_loopg [7] k2 (fun kq v7 w'=>∃ (x7_3:Int) (x104001_3:ByteArray),v7=.int .i64 x7_3∧Aside0 (eX kq l0 x5_1 x6_2 x7_3 (l0.length:Int) x104001_3=some (r1,r2,r3))∧Aside0 (kq≤k2)∧Aside0 (w'.heap[gb101]? = some (.cells #[.int .i64 0,.string (⟨#[]⟩:ByteArray)] 41 (0,0)))∧Aside0 (w'.heap[gb103]? = some (.cells #[.int .i64 (l0.length:Int),.string x104001_3] 41 (0,0)))∧Aside0 (Below w.heap.size w w'))
        case atStart=>exact ⟨(wrap64 (x6_2+1)),(x104001_2),aH,H',⟨Nat.le_refl _⟩,⟨fO BK101⟩,⟨fO BK103⟩,⟨aX HB⟩⟩
        case round =>
         clear H'
         try clear c3
         try clear c9b0
         try clear c10b0
         try clear hcz8_0
         try clear hcz8_1
         try clear hfz8_0
         try clear hfz8_1
         obtain ⟨x7_3,x104001_3,rfl,HA,HK3,BK101,BK103,HB⟩:=hrel
         cases gk with
         | zero=>exact absurd HA.out (by simp [eX])
         | succ k3 =>
          have H:=HA.out
          clear HA
          simp only [eX] at H
          rcases eV H with ⟨c11b0,H⟩|⟨c11b0,H⟩
          ·obtain ⟨c12b0,H⟩:=cV H
           obtain ⟨c13b0,H⟩:=cV H
           obtain ⟨c14b0,H⟩:=cV H
           obtain ⟨c15b0,H⟩:=cV H
           obtain ⟨c16b0,H⟩:=cV H
           replace H:=DB H
           obtain ⟨t107,A170,H⟩:=H
           replace H:((spec_l3Byte.f t107).bind fun t108=>(if x104001_3.size+t108.size≤9223372036854775807 then (eX k3 l0 x5_1 x6_2 (wrap64 (x7_3+1)) (l0.length:Int) (x104001_3++t108)) else (none)))=some (r1,r2,r3):=H
           have A17:=aE A170
           clear A170
           replace H:=DB H
           obtain ⟨t108,A180,H⟩:=H
           replace H:(if x104001_3.size+t108.size≤9223372036854775807 then (eX k3 l0 x5_1 x6_2 (wrap64 (x7_3+1)) (l0.length:Int) (x104001_3++t108)) else (none))=some (r1,r2,r3):=H
           have A18:=aE A180
           clear A180
           obtain ⟨c19,H⟩:=gQ H
           have c19b0:=eq_true c19
           have c19b1:=decide_eq_true c19
           try have c19b2:(9223372036854775807<x104001_3.size+t108.size)=False:=eq_false (Nat.not_lt.2 c19)
           have H':=aE H
           clear H
           try go_wp2
           replace BK101:=aE (aI BK101.out)
           replace BK103:=aE (aI BK103.out)
           replace HB:=aE (jK HB.out)
           have p104:0≤(x5_1:Int):=bI
           have q104:x5_1<(l0.length:Int):=bI
           obtain ⟨ad104,e104,hx104_0,hx104_1⟩:=bW HR0.out x5_1 p104 q104
           have hw104_1:=hx104_1
           have hw104_0:=hx104_0
           cases e104
           replace hx104_0:=aY HB hx104_0
           replace hx104_1:=aY HB hx104_1
           replace p104:=eq_true p104
           replace q104:=eq_true q104
           have p105:0≤(x6_2:Int):=bI
           have q105:x6_2<(l0.length:Int):=bI
           obtain ⟨ad105,e105,hx105_0,hx105_1⟩:=bW HR0.out x6_2 p105 q105
           have hw105_1:=hx105_1
           have hw105_0:=hx105_0
           obtain rfl:ad104=ad105:=(by injection e105)
           replace hx105_0:=aY HB hx105_0
           replace hx105_1:=aY HB hx105_1
           replace p105:=eq_true p105
           replace q105:=eq_true q105
           have p106:0≤(x7_3:Int):=bI
           have q106:x7_3<(l0.length:Int):=bI
           obtain ⟨ad106,e106,hx106_0,hx106_1⟩:=bW HR0.out x7_3 p106 q106
           have hw106_1:=hx106_1
           have hw106_0:=hx106_0
           obtain rfl:ad104=ad106:=(by injection e106)
           replace hx106_0:=aY HB hx106_0
           replace hx106_1:=aY HB hx106_1
           replace p106:=eq_true p106
           replace q106:=eq_true q106
           refine dA (n:=19) (S:=fun w'=>w'.cell? ⟨gb103,0,none⟩=some (.int .i64 (l0.length:Int))∧w'.cell? ⟨gb103,1,none⟩=some (.string x104001_3)∧w'.cell? (ad104.add ((x5_1).toNat*2))=some (.int .i64 ((aC l0 x5_1).f0))∧w'.cell? ⟨(ad104.add ((x5_1).toNat*2)).block,(ad104.add ((x5_1).toNat*2)).off+1,none⟩=some (.int .i64 ((aC l0 x5_1).f1))∧w'.cell? (ad104.add ((x6_2).toNat*2))=some (.int .i64 ((aC l0 x6_2).f0))∧w'.cell? ⟨(ad104.add ((x6_2).toNat*2)).block,(ad104.add ((x6_2).toNat*2)).off+1,none⟩=some (.int .i64 ((aC l0 x6_2).f1))∧w'.cell? (ad104.add ((x7_3).toNat*2))=some (.int .i64 ((aC l0 x7_3).f0))∧w'.cell? ⟨(ad104.add ((x7_3).toNat*2)).block,(ad104.add ((x7_3).toNat*2)).off+1,none⟩=some (.int .i64 ((aC l0 x7_3).f1))) (ds:=[18]) (bm 19 0) (by kernel_rfl) rfl rfl ⟨aW BK103 0,aW BK103 1,(aY HB hw104_0),(aY HB hw104_1),(aY HB hw105_0),(aY HB hw105_1),(aY HB hw106_0),(aY HB hw106_1)⟩ (fun hHeld=>?_);refine bO xH wR (fun HT_ HW_=>?_)
           generalize wr.drew=w20 at BK101 BK103 HB hx104_0 hx104_1 hx105_0 hx105_1 hx106_0 hx106_1 hHeld ⊢
           refine bU ((0,0,37,1)::(0,2,39,5)::(0,3,40,13)::(0,4,41,29)::(0,6,43,93)::(0,7,44,221)::(0,8,45,477)::(0,10,47,1501)::(0,11,48,3549)::(0,12,49,7645)::(2,1,38,7647)::(2,5,42,7679)::(2,9,46,8191)::(2,13,50,16383)::[]) ?_
           iterate 14 (first|refine jT HT_ ?_|refine pZ HT_ HW_ hHeld ?_)
           refine aU ?_
           refine dQ (i:=14) (N:=some 51) (bm 19 32767) rfl rfl (bJ HT_.out (by kernel_rfl)) (by decide) (fun K hK=>?_)
           refine cN Tryz.func53 #[.agg #[.int .i64 ((aC l0 x5_1).f0),.int .i64 ((aC l0 x5_1).f1)],.agg #[.int .i64 ((aC l0 x6_2).f0),.int .i64 ((aC l0 x6_2).f1)],.agg #[.int .i64 ((aC l0 x7_3).f0),.int .i64 ((aC l0 x7_3).f1)]] ?_
           with_reducible refine (gX ((aC l0 x5_1).f0) ((aC l0 x5_1).f1) ((aC l0 x6_2).f0) ((aC l0 x6_2).f1) ((aC l0 x7_3).f0) ((aC l0 x7_3).f1) t107 _ A17.out).mono ?_
           rintro e w21 ⟨rfl,hb⟩
           refine ⟨_,rfl,?_⟩
           replace BK101:=aE (bB BK101 hb)
           replace BK103:=aE (bB BK103 hb)
           replace HB:=aE (aD (aX HB) hb)
           (try clear hb)
           refine hK.out _ _ ⟨aW BK103 0,aW BK103 1,(aY HB hw104_0),(aY HB hw104_1),(aY HB hw105_0),(aY HB hw105_1),(aY HB hw106_0),(aY HB hw106_1)⟩ (fun hHeld=>?_)
           clear hK K
           refine gA ?_
           refine dQ (i:=15) (N:=some 52) (bm 19 65535) rfl rfl (bJ HT_.out (by kernel_rfl)) (by decide) (fun K hK=>?_)
           refine cN Tryz.func55 #[.int .i64 t107] ?_
           with_reducible refine (lI t107 t108 _ A18.out).mono ?_
           rintro e w' ⟨rfl,⟨nd,rfl⟩⟩
           refine ⟨_,rfl,?_⟩
           refine hK.out _ _ ⟨aW BK103 0,aW BK103 1,(aY HB hw104_0),(aY HB hw104_1),(aY HB hw105_0),(aY HB hw105_1),(aY HB hw106_0),(aY HB hw106_1)⟩ (fun hHeld=>?_)
           clear hK K
           refine gA ?_
           refine bU ((0,16,53,131071)::(0,17,54,262143)::[]) ?_
           iterate 2 (first|refine jT HT_ ?_)
           refine aU ?_
           refine BZ (i:=18) (N:=none) (bm 19 524287) rfl rfl (bJ HT_.out (by kernel_rfl)) (by decide) (fun K hK=>?_)
           have hs22:w21.cell? ⟨gb103,1,none⟩=some (.string x104001_3):=aW BK103 1
           have hfs22:=aA BK103.out 1
           have hns22_0:=NB101_103.out
           have hms22_0:=NB103_101.out
           refine kY (w1:=?_) (by rfl) rfl ?_ ?_
           rotate_left
           ·go_simp
            rfl
           refine hK.out _ _ ?_
           clear hK K
           refine eN (cK HT_.out (by kernel_rfl)) ?_
           try go_wp2
           go_roundg k3
           case measure=>have:=HK1.out;have:=HK2.out;have:=HK3.out;omega
           case rel=>exact ⟨(wrap64 (x7_3+1)),(x104001_3++t108),aH,H',⟨by have:=HK1.out;have:=HK2.out;have:=HK3.out;omega⟩,⟨jR BK101⟩,⟨jR BK103⟩,⟨aX HB⟩⟩
          ·have H':=aE H
           clear H
           go_wp2
           go_roundg k3
           case measure=>have:=HK1.out;have:=HK2.out;have:=HK3.out;omega
           case rel=>exact ⟨(wrap64 (x6_2+1)),(x104001_3),aH,H',⟨by have:=HK1.out;have:=HK2.out;have:=HK3.out;omega⟩,⟨fO BK101⟩,⟨fO BK103⟩,⟨aX HB⟩⟩
       ·have H':=aE H
        clear H
        go_wp2
        go_roundg k2
        case measure=>have:=HK1.out;have:=HK2.out;omega
        case rel=>exact ⟨(wrap64 (x5_1+1)),(x104001_2),aH,H',⟨by have:=HK1.out;have:=HK2.out;omega⟩,⟨fO BK101⟩,⟨fO BK103⟩,⟨aX HB⟩⟩
    ·simp only [Option.some.injEq,Prod.mk.injEq] at H
     obtain ⟨rfl,rfl,rfl⟩:=H
     have hnb23:=NB103_101.out
     have hnc23:=NB101_103.out
     have hcz24_0:=aW BK103 0
     have hcz24_1:=aW BK103 1
     have hfz24_0:=aA BK103.out 0
     have hfz24_1:=aA BK103.out 1
     have hcz25_0:=aW BK101 0
     have hcz25_1:=aW BK101 1
     have hfz25_0:=aA BK101.out 0
     have hfz25_1:=aA BK101.out 1
     go_wp2
     refine bodyPost_ret (sW rfl _ _ gb101 41 #[.int .i64 (l0.length:Int),.string x104001_1] (0,0) _ rfl (jR BK101) Tryz.underlying41 rfl (by kernel_rfl)) rfl ?_
     exact ⟨bP,aX HB⟩
 ·replace c3:=Bool.eq_false_iff.mpr c3
  subst c3
  rw [if_neg (show ¬ (false=true) by decide)] at H
  simp only [Option.some.injEq,Prod.mk.injEq] at H
  obtain ⟨rfl,rfl,rfl⟩:=H
  go_enter Tryz.func25,Tryz.ntmps25
  go_wp2_with (first|((with_reducible refine aN (N:=2) rfl ?_);refine bV (N:=2) #[.int .i64 0,.string (⟨#[]⟩:ByteArray)] 41 ?_;intro gb101 hg w26 hbox hb;have BK101:=aE (hbox);have GW101:=aE ((dX HB hg));have GE101:=aE ((dX HB hg));replace HB:=aE (aD (aX HB) hb);clear hb hbox hg)|((with_reducible refine aJ (f:=23) rfl ?_);refine aV (some 9) Tryz.func23 #[.slice A0 l0.length c0] ?_;(with_reducible refine (cB k _ _ l0 false _ ?side1 ?side2 A2.out).mono ?_);(case side1=>exact kJ (Kd.C_below HR0.out HB.out));(case side2=>exact HC0.out);rintro e w27 ⟨rfl,hb⟩;refine ⟨_,rfl,?_⟩;replace BK101:=aE (bB BK101 hb);replace HB:=aE (aD (aX HB) hb);(try clear hb);have hcz28_0:=aW BK101 0;have hcz28_1:=aW BK101 1;have hfz28_0:=aA BK101.out 0;have hfz28_1:=aA BK101.out 1))
  refine bodyPost_ret (sW rfl _ _ gb101 41 #[.int .i64 0,.string (⟨#[]⟩:ByteArray)] (0,0) _ rfl (jR BK101) Tryz.underlying41 rfl (by kernel_rfl)) rfl ?_
  exact ⟨bP,aX HB⟩
/-! ### spec_AreSigns: function 101 -/
mutual
def jU:Nat→Bool→Int→ByteArray→Option (Bool)
 | 0,_,_,_=>none
 | k+1,x24,x102000,x102001=>if x24=true then (some false) else (eZ k 0 x102000 x102001)
def eZ:Nat→Int→Int→ByteArray→Option (Bool)
 | 0,_,_,_=>none
 | k+1,x3,x102000,x102001=>if x3<(x102001.size:Int) then (if 0≤x3 then (if (bt x102001 x3)=43 then (eZ k (wrap64 (x3+1)) x102000 x102001) else (if (bt x102001 x3)=45 then (eZ k (wrap64 (x3+1)) x102000 x102001) else (some false))) else (none)) else (some true)
end
def spec_AreSigns.f (k:Nat) (a0_0:Int) (a0_1:ByteArray):Option (Bool):=(spec_l1In.f a0_0 3 7).bind fun t102=>(if t102=true then (jU k ((a0_1.size:Int) != (wrap64 (Int.tdiv (wrap64 ((wrap64 (a0_0*(wrap64 (a0_0-1))))*(wrap64 (a0_0-2)))) 6))) a0_0 a0_1) else (jU k true a0_0 a0_1))
set_option maxHeartbeats 8000000 in
set_option maxRecDepth 100000 in
theorem lZ (k : Nat) (a0_0 : Int) (a0_1 : ByteArray) (r : Bool) (w : World) (h : spec_AreSigns.f k a0_0 a0_1 = some r) :
  Calls Tryz.prog 101 #[.agg #[.int .i64 a0_0,.string a0_1]] w fun e w'=>e=.returned (.bool r)∧Below w.heap.size w w':=by
 have hu41:=Tryz.underlying41
 have HB:=aE (Below.refl w.heap.size w)
 unfold spec_AreSigns.f at h
 have H:=h
 clear h
 have HC2:=aE H
 clear H
 go_enter Tryz.func101,Tryz.ntmps101
 go_upto_region 1 with (first|((with_reducible refine aN (N:=1) rfl ?_);(try (refine fS (by rfl) ?_;dsimp only));refine bV (N:=1) #[.int .i64 a0_0,.string a0_1] 41 ?_;intro gb101 hg w3 hbox hb;have BK101:=aE (hbox);have GW101:=aE ((dX HB hg));have GE101:=aE ((dX HB hg));replace HB:=aE (aD (aX HB) hb);clear hb hbox hg))
 (try simp only [Act.put,List.setIfInBounds_toArray,List.set_cons_zero,List.set_cons_succ])
 go_cut [24] (fun v24 wc=>∃ (kq:Nat) (x24_1:Bool),v24=.bool x24_1∧Aside0 (jU kq x24_1 a0_0 a0_1=some r)∧Aside0 (kq≤k)∧Aside0 (wc.heap[gb101]? = some (.cells #[.int .i64 a0_0,.string a0_1] 41 (0,0)))∧Aside0 (Below w.heap.size w wc))
 case first =>
  have H:=HC2.out
  clear HC2
  replace H:=eM H
  obtain ⟨t102,A4,H⟩:=H
  by_cases c5:t102=true
  ·subst c5
   rw [if_pos rfl] at H
   have H':=aE H
   clear H
   have hcz6_0:=aW BK101 0
   have hcz6_1:=aW BK101 1
   have hfz6_0:=aA BK101.out 0
   have hfz6_1:=aA BK101.out 1
   go_wp2_with (first|((with_reducible refine aJ (f:=52) rfl ?_);refine aV (some 6) Tryz.func52 #[.int .i64 a0_0,.int .i64 3,.int .i64 7] ?_;(with_reducible refine (iN a0_0 3 7 true _ A4.out).mono ?_);rintro e w' ⟨rfl,⟨nd,rfl⟩⟩;refine ⟨_,rfl,?_⟩))
   go_meet
   case rel=>exact ⟨_,(((a0_1.size:Int) != (wrap64 (Int.tdiv (wrap64 ((wrap64 (a0_0*(wrap64 (a0_0-1))))*(wrap64 (a0_0-2)))) 6)))),aH,H',⟨by first|omega|exact Nat.le_refl _⟩,⟨fO BK101⟩,⟨aX HB⟩⟩
  ·replace c5:=Bool.eq_false_iff.mpr c5
   subst c5
   rw [if_neg (show ¬ (false=true) by decide)] at H
   have H':=aE H
   clear H
   have hcz7_0:=aW BK101 0
   have hcz7_1:=aW BK101 1
   have hfz7_0:=aA BK101.out 0
   have hfz7_1:=aA BK101.out 1
   go_wp2_with (first|((with_reducible refine aJ (f:=52) rfl ?_);refine aV (some 6) Tryz.func52 #[.int .i64 a0_0,.int .i64 3,.int .i64 7] ?_;(with_reducible refine (iN a0_0 3 7 false _ A4.out).mono ?_);rintro e w' ⟨rfl,⟨nd,rfl⟩⟩;refine ⟨_,rfl,?_⟩))
   go_meet
   case rel=>exact ⟨_,(true),aH,H',⟨by first|omega|exact Nat.le_refl _⟩,⟨fO BK101⟩,⟨aX HB⟩⟩
 case rest =>
  clear HC2
  try clear c5
  try clear hcz6_0
  try clear hcz6_1
  try clear hcz7_0
  try clear hcz7_1
  try clear hfz6_0
  try clear hfz6_1
  try clear hfz7_0
  try clear hfz7_1
  obtain ⟨kq,x24_1,rfl,HA,HJ1,BK101,HB⟩:=hcut
  cases kq with
  | zero=>exact absurd HA.out (by simp [jU])
  | succ kj1 =>
   have H:=HA.out
   clear HA
   simp only [jU] at H
   by_cases c8:x24_1=true
   ·subst c8
    rw [if_pos rfl] at H
    obtain rfl:=Option.some.inj H
    go_wp2
    go_ret
    exact ⟨bP,aX HB⟩
   ·replace c8:=Bool.eq_false_iff.mpr c8
    subst c8
    rw [if_neg (show ¬ (false=true) by decide)] at H
    have H':=aE H
    clear H
    go_wp2
    go_loopg [3] kj1 (fun kq v3 w'=>∃ (x3_2:Int),v3=.int .i64 x3_2∧Aside0 (eZ kq x3_2 a0_0 a0_1=some r)∧Aside0 (kq≤kj1)∧Aside0 (w'.heap[gb101]? = some (.cells #[.int .i64 a0_0,.string a0_1] 41 (0,0)))∧Aside0 (Below w.heap.size w w'))
    case atStart=>exact ⟨(0),aH,H',⟨Nat.le_refl _⟩,⟨fO BK101⟩,⟨aX HB⟩⟩
    case round =>
     clear H'
     try clear c5
     try clear c8
     try clear hcz6_0
     try clear hcz6_1
     try clear hcz7_0
     try clear hcz7_1
     try clear hfz6_0
     try clear hfz6_1
     try clear hfz7_0
     try clear hfz7_1
     obtain ⟨x3_2,rfl,HA,HK2,BK101,HB⟩:=hrel
     cases gk with
     | zero=>exact absurd HA.out (by simp [eZ])
     | succ k2 =>
      have H:=HA.out
      clear HA
      simp only [eZ] at H
      rcases eV H with ⟨c9b0,H⟩|⟨c9b0,H⟩
      ·obtain ⟨c10b0,H⟩:=cV H
       rcases jE H with ⟨c12,H⟩|⟨c12,H⟩
       ·have c12b0:((bt a0_1 x3_2)==43)=true:=beq_iff_eq.mpr c12
        have c12b1:((bt a0_1 x3_2) != 43)=false:=bne_eq_false_iff_eq.mpr c12
        clear c12
        have H':=aE H
        clear H
        have hcz13_0:=aW BK101 0
        have hcz13_1:=aW BK101 1
        have hfz13_0:=aA BK101.out 0
        have hfz13_1:=aA BK101.out 1
        have p11:0≤(x3_2:Int):=bI
        have q11:x3_2<(a0_1.size:Int):=bI
        have hx11:=lK a0_1 x3_2
        replace p11:=eq_true p11
        replace q11:=eq_true q11
        go_wp2
        go_roundg k2
        case measure=>have:=HJ1.out;have:=HK2.out;omega
        case rel=>exact ⟨(wrap64 (x3_2+1)),aH,H',⟨by have:=HJ1.out;have:=HK2.out;omega⟩,⟨fO BK101⟩,⟨aX HB⟩⟩
       ·have c12b0:((bt a0_1 x3_2)==43)=false:=beq_eq_false_iff_ne.mpr c12
        have c12b1:((bt a0_1 x3_2) != 43)=true:=bne_iff_ne.mpr c12
        rcases jE H with ⟨c15,H⟩|⟨c15,H⟩
        ·have c15b0:((bt a0_1 x3_2)==45)=true:=beq_iff_eq.mpr c15
         have c15b1:((bt a0_1 x3_2) != 45)=false:=bne_eq_false_iff_eq.mpr c15
         clear c15
         have H':=aE H
         clear H
         have hcz16_0:=aW BK101 0
         have hcz16_1:=aW BK101 1
         have hfz16_0:=aA BK101.out 0
         have hfz16_1:=aA BK101.out 1
         have p11:0≤(x3_2:Int):=bI
         have q11:x3_2<(a0_1.size:Int):=bI
         have hx11:=lK a0_1 x3_2
         replace p11:=eq_true p11
         replace q11:=eq_true q11
         have p14:0≤(x3_2:Int):=bI
         have q14:x3_2<(a0_1.size:Int):=bI
         have hx14:=lK a0_1 x3_2
         replace p14:=eq_true p14
         replace q14:=eq_true q14
         go_wp2
         go_roundg k2
         case measure=>have:=HJ1.out;have:=HK2.out;omega
         case rel=>exact ⟨(wrap64 (x3_2+1)),aH,H',⟨by have:=HJ1.out;have:=HK2.out;omega⟩,⟨fO BK101⟩,⟨aX HB⟩⟩
        ·have c15b0:((bt a0_1 x3_2)==45)=false:=beq_eq_false_iff_ne.mpr c15
         have c15b1:((bt a0_1 x3_2) != 45)=true:=bne_iff_ne.mpr c15
         obtain rfl:=Option.some.inj H
         have hcz17_0:=aW BK101 0
         have hcz17_1:=aW BK101 1
         have hfz17_0:=aA BK101.out 0
         have hfz17_1:=aA BK101.out 1
         have p11:0≤(x3_2:Int):=bI
         have q11:x3_2<(a0_1.size:Int):=bI
         have hx11:=lK a0_1 x3_2
         replace p11:=eq_true p11
         replace q11:=eq_true q11
         have p14:0≤(x3_2:Int):=bI
         have q14:x3_2<(a0_1.size:Int):=bI
         have hx14:=lK a0_1 x3_2
         replace p14:=eq_true p14
         replace q14:=eq_true q14
         go_wp2
         go_ret
         exact ⟨bP,aX HB⟩
      ·obtain rfl:=Option.some.inj H
       have hcz18_0:=aW BK101 0
       have hcz18_1:=aW BK101 1
       have hfz18_0:=aA BK101.out 0
       have hfz18_1:=aA BK101.out 1
       go_wp2
       go_ret
       exact ⟨bP,aX HB⟩
/-! ### spec_l3Others: function 114 -/
def fR:Nat→Int→Int→List Int→Int→Option (List Int)
 | 0,_,_,_,_=>none
 | k+1,x0,x1,x5,x6=>if x6<x0 then (if x6=x1 then (fR k x0 x1 x5 (wrap64 (x6+1))) else (if x5.length<17592186044416 then (fR k x0 x1 (x5++[x6]) (wrap64 (x6+1))) else (none))) else (some x5)
def spec_l3Others.f (k:Nat) (a0:Int) (a1:Int):Option (List Int):=fR k a0 a1 (([]:List Int)) 0
theorem nY:∀ k,(∀ y0 y1 y2 y3,LeO (fR k y0 y1 y2 y3) (fR (k+1) y0 y1 y2 y3))
 | 0=>fun _ _ _ _ r h=>by simp [fR] at h
 | k+1=>by
  have ih0:=nY k
  (intros;unfold fR;repeat' (with_reducible first|exact ih0 _ _ _ _|exact LeO.refl _|exact LeO.none _|refine jA ?_ ?_|refine LeO.bind ?_ (fun _=>?_)))
theorem spec_l3Others.mono:∀ a0 a1 k,LeO (spec_l3Others.f k a0 a1) (spec_l3Others.f (k+1) a0 a1):=by
 intro a0 a1 k
 have ih0:=nY k
 unfold spec_l3Others.f
 repeat' (with_reducible first|exact ih0 _ _ _ _|exact LeO.refl _|exact LeO.none _|refine jA ?_ ?_|refine LeO.bind ?_ (fun _=>?_))
set_option maxHeartbeats 8000000 in
set_option maxRecDepth 100000 in
theorem wS (k:Nat) (a0:Int) (a1:Int) (r:List Int) (w:World) (h:spec_l3Others.f k a0 a1=some r) :
  Calls Tryz.prog 114 #[.int .i64 a0,.int .i64 a1] w fun e w'=>∃ v0_:Value,e=.returned (v0_)∧Kd.R (Kd.int .i64) 3 w' w.heap.size (fun _=>True) v0_ r∧Below w.heap.size w w':=by
 have HB:=aE (Below.refl w.heap.size w)
 unfold spec_l3Others.f at h
 have H:=h
 clear h
 obtain ⟨y101,hy101⟩:∃ y_:List Int,y_=(([]:List Int)):=⟨_,rfl⟩
 first|(with_reducible replace H:=oO hy101 H)|(with_reducible replace H:=oP hy101 H)|rw [← hy101] at H
 have Ny101:=aE hy101
 clear hy101
 have H':=aE H
 clear H
 go_enter Tryz.func114,Tryz.ntmps114
 go_wp2_with (first|((with_reducible refine aN (N:=7) rfl ?_);refine Kd.R_lit (Kd.int .i64) _ 3 ?hg (N:=7) ?hd (xs:=([]:List Int)) (inner:=[]) (ok:=fun _=>True) (okp:=fun _=>True) ?hr ?hp (fun _ hk=>hk) trivial (Below.refl _ _) (Nat.le_refl _) (by simp) ?_;(case hd=>rfl);(case hg=>rfl);(case hr=>first|(go_simp;done)|(go_simp;rfl));(case hp=>exact (kC.none _ _));intro v102 w3 ho4 hb hg_ hnew_;clear hg_ hnew_;(first|rw [← Ny101.out] at ho4|(simp only [Int.reduceToNat] at ho4;rw [← Ny101.out] at ho4));have HO103:=aE (Kd.R_lower ho4 (aT (aX HB)));replace HB:=aE (aD (aX HB) hb);clear hb ho4))
 go_loopg [5,6] k (fun kq v5 v6 w'=>∃ (x5_1:List Int) (x6_1:Int),v6=.int .i64 x6_1∧Aside0 (fR kq a0 a1 x5_1 x6_1=some r)∧Aside0 (kq≤k)∧Aside0 (Kd.R (Kd.int .i64) 3 w' w.heap.size (fun _=>True) v5 x5_1)∧Aside0 (Below w.heap.size w w'))
 case atStart=>exact ⟨(y101),(0),aH,H',⟨Nat.le_refl _⟩,⟨bN HO103⟩,⟨aX HB⟩⟩
 case round =>
  clear H'
  obtain ⟨x5_1,x6_1,rfl,HA,HK1,HO_5,HB⟩:=hrel
  cases gk with
  | zero=>exact absurd HA.out (by simp [fR])
  | succ k1 =>
   have H:=HA.out
   clear HA
   simp only [fR] at H
   rcases eV H with ⟨c5b0,H⟩|⟨c5b0,H⟩
   ·rcases jE H with ⟨c6,H⟩|⟨c6,H⟩
    ·have c6b0:(x6_1==a1)=true:=beq_iff_eq.mpr c6
     have c6b1:(x6_1 != a1)=false:=bne_eq_false_iff_eq.mpr c6
     clear c6
     have H':=aE H
     clear H
     go_wp2
     go_roundg k1
     case measure=>have:=HK1.out;omega
     case rel=>exact ⟨(x5_1),(wrap64 (x6_1+1)),aH,H',⟨by have:=HK1.out;omega⟩,⟨bN HO_5⟩,⟨aX HB⟩⟩
    ·have c6b0:(x6_1==a1)=false:=beq_eq_false_iff_ne.mpr c6
     have c6b1:(x6_1 != a1)=true:=bne_iff_ne.mpr c6
     obtain ⟨c7,H⟩:=gQ H
     have LMc7:=aE c7
     clear c7
     obtain ⟨y104,hy104⟩:∃ y_:List Int,y_=(x5_1++[x6_1]):=⟨_,rfl⟩
     first|(with_reducible replace H:=oO hy104 H)|(with_reducible replace H:=oP hy104 H)|rw [← hy104] at H
     have Ny104:=aE hy104
     clear hy104
     have H':=aE H
     clear H
     go_wp2_with (first|((with_reducible refine cT (b:=.append) (xs:=#[.tmp 16,.tmp 18]) rfl ?_);at_builtin;refine Kd.R_append (Kd.int .i64) (w0:=w) w.heap.size rfl (.tmp 16) (.tmp 18) 33 3 (.int .i64 0) 8 rfl Tryz.underlying33 mO rfl (by decide) (by omega) u5 x5_1 x6_1 [.int .i64 x6_1] (fun _=>True) (fun _=>False) rfl rfl ?aP (fun _ hk=>hk.elim) ?aF ?aO ?aB ?aS ?aL ?_;(case aP=>exact rfl);(case aB=>exact (aX HB));(case aF=>exact (fun _ _=>trivial));(case aO=>exact (bN HO_5));(case aS=>exact (aT (aX HB)));(case aL=>have:=LMc7.out;omega);intro v105 w8 ho hb hg hat;rw [← Ny104.out] at ho;replace HB:=aE (hb);have HO106:=aE (ho);clear HO_5;clear ho hb hg hat))
     go_roundg k1
     case measure=>have:=HK1.out;omega
     case rel=>exact ⟨(y104),(wrap64 (x6_1+1)),aH,H',⟨by have:=HK1.out;omega⟩,⟨bN HO106⟩,⟨aX HB⟩⟩
   ·obtain rfl:=Option.some.inj H
    go_wp2
    go_ret
    exact ⟨_,bP,bN HO_5,aX HB⟩
/-! ### spec_l3Index: function 113 -/
mutual
def iO:Nat→Int→Int→Int→Int→Int→Int→Option (Int)
 | 0,_,_,_,_,_,_=>none
 | k+1,x0,x1,x2,x3,x9,x10=>if x10<x1 then (iO k x0 x1 x2 x3 (wrap64 (x9+(wrap64 (Int.tdiv (wrap64 ((wrap64 ((wrap64 (x0-1))-x10))*(wrap64 ((wrap64 (x0-2))-x10)))) 2)))) (wrap64 (x10+1))) else (iP k x0 x2 x3 x9 (wrap64 (x1+1)))
def iP:Nat→Int→Int→Int→Int→Int→Option (Int)
 | 0,_,_,_,_,_=>none
 | k+1,x0,x2,x3,x9,x11=>if x11<x2 then (iP k x0 x2 x3 (wrap64 ((wrap64 ((wrap64 (x9+x0))-1))-x11)) (wrap64 (x11+1))) else (some (wrap64 ((wrap64 ((wrap64 (x9+x3))-x2))-1)))
end
def spec_l3Index.f (k:Nat) (a0:Int) (a1:Int) (a2:Int) (a3:Int):Option (Int):=iO k a0 a1 a2 a3 0 0
theorem oS:∀ k,(∀ y0 y1 y2 y3 y4 y5,LeO (iO k y0 y1 y2 y3 y4 y5) (iO (k+1) y0 y1 y2 y3 y4 y5))∧(∀ y0 y1 y2 y3 y4,LeO (iP k y0 y1 y2 y3 y4) (iP (k+1) y0 y1 y2 y3 y4))
 | 0=>⟨fun _ _ _ _ _ _ r h=>by simp [iO] at h,fun _ _ _ _ _ r h=>by simp [iP] at h⟩
 | k+1=>by
  obtain ⟨ih0,ih1⟩:=oS k
  refine ⟨?_,?_⟩ <;> (intros;(first|unfold iO|unfold iP);repeat' (with_reducible first|exact ih0 _ _ _ _ _ _|exact ih1 _ _ _ _ _|exact LeO.refl _|exact LeO.none _|refine jA ?_ ?_|refine LeO.bind ?_ (fun _=>?_)))
theorem spec_l3Index.mono:∀ a0 a1 a2 a3 k,LeO (spec_l3Index.f k a0 a1 a2 a3) (spec_l3Index.f (k+1) a0 a1 a2 a3):=by
 intro a0 a1 a2 a3 k
 obtain ⟨ih0,ih1⟩:=oS k
 unfold spec_l3Index.f
 repeat' (with_reducible first|exact ih0 _ _ _ _ _ _|exact ih1 _ _ _ _ _|exact LeO.refl _|exact LeO.none _|refine jA ?_ ?_|refine LeO.bind ?_ (fun _=>?_))
set_option maxHeartbeats 8000000 in
set_option maxRecDepth 100000 in
theorem dP (k:Nat) (a0:Int) (a1:Int) (a2:Int) (a3:Int) (r:Int) (w:World) (h:spec_l3Index.f k a0 a1 a2 a3=some r) :
  Calls Tryz.prog 113 #[.int .i64 a0,.int .i64 a1,.int .i64 a2,.int .i64 a3] w fun e w'=>e=.returned (.int .i64 r)∧gH w w':=by
 unfold spec_l3Index.f at h
 have H:=h
 clear h
 have H':=aE H
 clear H
 go_enter Tryz.func113,Tryz.ntmps113
 go_wp2
 go_loopg [9,10] k (fun kq v9 v10 w'=>∃ (x9_1:Int) (x10_1:Int),v9=.int .i64 x9_1∧v10=.int .i64 x10_1∧Aside0 (iO kq a0 a1 a2 a3 x9_1 x10_1=some r)∧Aside0 (kq≤k)∧gH w w')
 case atStart=>exact ⟨(0),(0),aH,aH,H',⟨Nat.le_refl _⟩,by repeat (first|exact gH.refl _|apply bF)⟩
 case round =>
  clear H'
  obtain ⟨x9_1,x10_1,rfl,rfl,HA,HK1,⟨m1,rfl⟩⟩:=hrel
  cases gk with
  | zero=>exact absurd HA.out (by simp [iO])
  | succ k1 =>
   have H:=HA.out
   clear HA
   simp only [iO] at H
   rcases eV H with ⟨c5b0,H⟩|⟨c5b0,H⟩
   ·have H':=aE H
    clear H
    go_wp2
    go_roundg k1
    case measure=>have:=HK1.out;omega
    case rel=>exact ⟨(wrap64 (x9_1+(wrap64 (Int.tdiv (wrap64 ((wrap64 ((wrap64 (a0-1))-x10_1))*(wrap64 ((wrap64 (a0-2))-x10_1)))) 2)))),(wrap64 (x10_1+1)),aH,aH,H',⟨by have:=HK1.out;omega⟩,by repeat (first|exact gH.refl _|apply bF)⟩
   ·have H':=aE H
    clear H
    go_wp2
    go_loopg [9,11] k1 (fun kq v9 v11 w'=>∃ (x9_2:Int) (x11_2:Int),v9=.int .i64 x9_2∧v11=.int .i64 x11_2∧Aside0 (iP kq a0 a2 a3 x9_2 x11_2=some r)∧Aside0 (kq≤k1)∧gH w w')
    case atStart=>exact ⟨(x9_1),(wrap64 (a1+1)),aH,aH,H',⟨Nat.le_refl _⟩,by repeat (first|exact gH.refl _|apply bF)⟩
    case round =>
     clear H'
     try clear c5b0
     obtain ⟨x9_2,x11_2,rfl,rfl,HA,HK2,⟨m2,rfl⟩⟩:=hrel
     cases gk with
     | zero=>exact absurd HA.out (by simp [iP])
     | succ k2 =>
      have H:=HA.out
      clear HA
      simp only [iP] at H
      rcases eV H with ⟨c6b0,H⟩|⟨c6b0,H⟩
      ·have H':=aE H
       clear H
       go_wp2
       go_roundg k2
       case measure=>have:=HK1.out;have:=HK2.out;omega
       case rel=>exact ⟨(wrap64 ((wrap64 ((wrap64 (x9_2+a0))-1))-x11_2)),(wrap64 (x11_2+1)),aH,aH,H',⟨by have:=HK1.out;have:=HK2.out;omega⟩,by repeat (first|exact gH.refl _|apply bF)⟩
      ·obtain rfl:=Option.some.inj H
       go_wp2
       go_ret
       exact ⟨aH,by repeat (first|exact gH.refl _|apply bF)⟩
/-! ### spec_l3At: function 100 -/
mutual
def gR:Nat→Int→Int→Int→Int→Int→ByteArray→Option (Int)
 | 0,_,_,_,_,_,_=>none
 | k+1,x1,x2,x3,x9,x102000,x102001=>if x2 > x3 then (fY k x1 x3 x2 (wrap64 (-x9)) x102000 x102001) else (fY k x1 x2 x3 x9 x102000 x102001)
def fY:Nat→Int→Int→Int→Int→Int→ByteArray→Option (Int)
 | 0,_,_,_,_,_,_=>none
 | k+1,x1,x2,x3,x9,x102000,x102001=>if x1 > x2 then ((spec_l3Index.f k x102000 x2 x1 x3).bind fun t102=>(if 0≤t102 then (if t102<(x102001.size:Int) then (if (bt x102001 t102)=45 then (some (wrap64 (-(wrap64 (-x9))))) else (some (wrap64 (-x9)))) else (none)) else (none))) else ((spec_l3Index.f k x102000 x1 x2 x3).bind fun t103=>(if 0≤t103 then (if t103<(x102001.size:Int) then (if (bt x102001 t103)=45 then (some (wrap64 (-x9))) else (some x9)) else (none)) else (none)))
end
def spec_l3At.f (k:Nat) (a0_0:Int) (a0_1:ByteArray) (a1:Int) (a2:Int) (a3:Int):Option (Int):=if a1 > a2 then (gR k a2 a1 a3 (-1) a0_0 a0_1) else (gR k a1 a2 a3 1 a0_0 a0_1)
theorem sC:∀ k,(∀ y0 y1 y2 y3 y4 y5,LeO (gR k y0 y1 y2 y3 y4 y5) (gR (k+1) y0 y1 y2 y3 y4 y5))∧(∀ y0 y1 y2 y3 y4 y5,LeO (fY k y0 y1 y2 y3 y4 y5) (fY (k+1) y0 y1 y2 y3 y4 y5))
 | 0=>⟨fun _ _ _ _ _ _ r h=>by simp [gR] at h,fun _ _ _ _ _ _ r h=>by simp [fY] at h⟩
 | k+1=>by
  obtain ⟨ih0,ih1⟩:=sC k
  refine ⟨?_,?_⟩ <;> (intros;(first|unfold gR|unfold fY);repeat' (with_reducible first|exact ih0 _ _ _ _ _ _|exact ih1 _ _ _ _ _ _|exact spec_l3Index.mono _ _ _ _ _|exact LeO.refl _|exact LeO.none _|refine jA ?_ ?_|refine LeO.bind ?_ (fun _=>?_)))
theorem spec_l3At.mono:∀ a0 a1 a2 a3 a4 k,LeO (spec_l3At.f k a0 a1 a2 a3 a4) (spec_l3At.f (k+1) a0 a1 a2 a3 a4):=by
 intro a0 a1 a2 a3 a4 k
 obtain ⟨ih0,ih1⟩:=sC k
 unfold spec_l3At.f
 repeat' (with_reducible first|exact ih0 _ _ _ _ _ _|exact ih1 _ _ _ _ _ _|exact spec_l3Index.mono _ _ _ _ _|exact LeO.refl _|exact LeO.none _|refine jA ?_ ?_|refine LeO.bind ?_ (fun _=>?_))
set_option maxHeartbeats 8000000 in
set_option maxRecDepth 100000 in
theorem cU (k:Nat) (a0_0:Int) (a0_1:ByteArray) (a1:Int) (a2:Int) (a3:Int) (r:Int) (w:World) (h:spec_l3At.f k a0_0 a0_1 a1 a2 a3=some r) :
  Calls Tryz.prog 100 #[.agg #[.int .i64 a0_0,.string a0_1],.int .i64 a1,.int .i64 a2,.int .i64 a3] w fun e w'=>e=.returned (.int .i64 r)∧Below w.heap.size w w':=by
 have hu41:=Tryz.underlying41
 have HB:=aE (Below.refl w.heap.size w)
 unfold spec_l3At.f at h
 have H:=h
 clear h
 have HC5:=aE H
 clear H
 go_enter Tryz.func100,Tryz.ntmps100
 go_upto_if 15 with (first|((with_reducible refine aN (N:=4) rfl ?_);refine bV (N:=4) #[.int .i64 a0_0,.string a0_1] 41 ?_;intro gb101 hg w6 hbox hb;have BK101:=aE (hbox);have GW101:=aE ((dX HB hg));have GE101:=aE ((dX HB hg));replace HB:=aE (aD (aX HB) hb);clear hb hbox hg))
 repeat (go_quiet (first|((with_reducible refine aN (N:=4) rfl ?_);refine bV (N:=4) #[.int .i64 a0_0,.string a0_1] 41 ?_;intro gb101 hg w6 hbox hb;have BK101:=aE (hbox);have GW101:=aE ((dX HB hg));have GE101:=aE ((dX HB hg));replace HB:=aE (aD (aX HB) hb);clear hb hbox hg));go_upto_if 15 with (first|((with_reducible refine aN (N:=4) rfl ?_);refine bV (N:=4) #[.int .i64 a0_0,.string a0_1] 41 ?_;intro gb101 hg w6 hbox hb;have BK101:=aE (hbox);have GW101:=aE ((dX HB hg));have GE101:=aE ((dX HB hg));replace HB:=aE (aD (aX HB) hb);clear hb hbox hg)))
 (try simp only [Act.put,List.setIfInBounds_toArray,List.set_cons_zero,List.set_cons_succ])
 go_cut [1,2,9] (fun v1 v2 v9 wc=>∃ (kq:Nat) (x1_4:Int) (x2_4:Int) (x9_4:Int),v1=.int .i64 x1_4∧v2=.int .i64 x2_4∧v9=.int .i64 x9_4∧Aside0 (gR kq x1_4 x2_4 a3 x9_4 a0_0 a0_1=some r)∧Aside0 (kq≤k)∧Aside0 (wc.heap[gb101]? = some (.cells #[.int .i64 a0_0,.string a0_1] 41 (0,0)))∧Aside0 (Below w.heap.size w wc))
 case first =>
  have H:=HC5.out
  clear HC5
  rcases eV H with ⟨c7b0,H⟩|⟨c7b0,H⟩
  ·(first|rw [c7b0]|(simp only [cC,dW];rw [c7b0])|skip)
   have H':=aE H
   clear H
   go_wp2
   repeat (go_quiet (fail);try go_wp2)
   go_meet
   case rel=>exact ⟨_,(a2),(a1),(-1),aH,aH,aH,H',⟨by first|omega|exact Nat.le_refl _⟩,⟨fO BK101⟩,⟨aX HB⟩⟩
  ·(first|rw [c7b0]|(simp only [cC,dW];rw [c7b0])|skip)
   have H':=aE H
   clear H
   go_wp2
   repeat (go_quiet (fail);try go_wp2)
   go_meet
   case rel=>exact ⟨_,(a1),(a2),(1),aH,aH,aH,H',⟨by first|omega|exact Nat.le_refl _⟩,⟨fO BK101⟩,⟨aX HB⟩⟩
 case rest =>
  clear HC5
  try clear c7b0
  obtain ⟨kq,x1_4,x2_4,x9_4,rfl,rfl,rfl,HA,HJ4,BK101,HB⟩:=hcut
  cases kq with
  | zero=>exact absurd HA.out (by simp [gR])
  | succ kj4 =>
   have H:=HA.out
   clear HA
   simp only [gR] at H
   have HC8:=aE H
   clear H
   go_upto_if 23 with (fail)
   repeat (go_quiet (fail);go_upto_if 23 with (fail))
   go_cut [2,3,9] (fun v2 v3 v9 wc=>∃ (kq:Nat) (x2_7:Int) (x3_7:Int) (x9_7:Int),v2=.int .i64 x2_7∧v3=.int .i64 x3_7∧v9=.int .i64 x9_7∧Aside0 (fY kq x1_4 x2_7 x3_7 x9_7 a0_0 a0_1=some r)∧Aside0 (kq≤kj4)∧Aside0 (wc.heap[gb101]? = some (.cells #[.int .i64 a0_0,.string a0_1] 41 (0,0)))∧Aside0 (Below w.heap.size w wc))
   case first =>
    have H:=HC8.out
    clear HC8
    rcases eV H with ⟨c9b0,H⟩|⟨c9b0,H⟩
    ·(first|rw [c9b0]|(simp only [cC,dW];rw [c9b0])|skip)
     have H':=aE H
     clear H
     go_wp2
     repeat (go_quiet (fail);try go_wp2)
     go_meet
     case rel=>exact ⟨_,(a3),(x2_4),(wrap64 (-x9_4)),aH,aH,aH,H',⟨RK HJ4⟩,⟨fO BK101⟩,⟨aX HB⟩⟩
    ·(first|rw [c9b0]|(simp only [cC,dW];rw [c9b0])|skip)
     have H':=aE H
     clear H
     go_wp2
     repeat (go_quiet (fail);try go_wp2)
     go_meet
     case rel=>exact ⟨_,(x2_4),(a3),(x9_4),aH,aH,aH,H',⟨RK HJ4⟩,⟨fO BK101⟩,⟨aX HB⟩⟩
   case rest =>
    clear HC8
    try clear c7b0
    try clear c9b0
    obtain ⟨kq,x2_7,x3_7,x9_7,rfl,rfl,rfl,HA,HJ7,BK101,HB⟩:=hcut
    cases kq with
    | zero=>exact absurd HA.out (by simp [fY])
    | succ kj7 =>
     have H:=HA.out
     clear HA
     simp only [fY] at H
     rcases eV H with ⟨c10b0,H⟩|⟨c10b0,H⟩
     ·replace H:=DB H
      obtain ⟨t102,A110,H⟩:=H
      have A11:=aE A110
      clear A110
      obtain ⟨c12b0,H⟩:=cV H
      obtain ⟨c13b0,H⟩:=cV H
      rcases jE H with ⟨c15,H⟩|⟨c15,H⟩
      ·have c15b0:((bt a0_1 t102)==45)=true:=beq_iff_eq.mpr c15
       have c15b1:((bt a0_1 t102) != 45)=false:=bne_eq_false_iff_eq.mpr c15
       clear c15
       obtain rfl:=Option.some.inj H
       have hcz16_0:=aW BK101 0
       have hcz16_1:=aW BK101 1
       have hfz16_0:=aA BK101.out 0
       have hfz16_1:=aA BK101.out 1
       go_wp2_with (first|(go_at_call 113;(with_reducible refine (dP kj7 a0_0 x2_7 x1_4 x3_7 t102 _ A11.out).mono ?_);rintro e w' ⟨rfl,⟨nd,rfl⟩⟩;(try first|exact ⟨rfl,_,World.drewN_drewN _ _ _⟩|exact ⟨rfl,_,Eq.trans (World.drewN_drewN _ _ _) (congrArg (World.drewN _) (Nat.add_assoc _ _ _))⟩);have p14:0≤(t102:Int):=bI;have q14:t102<(a0_1.size:Int):=bI;have hx14:=lK a0_1 t102;replace p14:=eq_true p14;replace q14:=eq_true q14))
       repeat (go_quiet (first|(go_at_call 113;(with_reducible refine (dP kj7 a0_0 x2_7 x1_4 x3_7 t102 _ A11.out).mono ?_);rintro e w' ⟨rfl,⟨nd,rfl⟩⟩;(try first|exact ⟨rfl,_,World.drewN_drewN _ _ _⟩|exact ⟨rfl,_,Eq.trans (World.drewN_drewN _ _ _) (congrArg (World.drewN _) (Nat.add_assoc _ _ _))⟩);have p14:0≤(t102:Int):=bI;have q14:t102<(a0_1.size:Int):=bI;have hx14:=lK a0_1 t102;replace p14:=eq_true p14;replace q14:=eq_true q14));try go_wp2_with (first|(go_at_call 113;(with_reducible refine (dP kj7 a0_0 x2_7 x1_4 x3_7 t102 _ A11.out).mono ?_);rintro e w' ⟨rfl,⟨nd,rfl⟩⟩;(try first|exact ⟨rfl,_,World.drewN_drewN _ _ _⟩|exact ⟨rfl,_,Eq.trans (World.drewN_drewN _ _ _) (congrArg (World.drewN _) (Nat.add_assoc _ _ _))⟩);have p14:0≤(t102:Int):=bI;have q14:t102<(a0_1.size:Int):=bI;have hx14:=lK a0_1 t102;replace p14:=eq_true p14;replace q14:=eq_true q14)))
       go_ret
       exact ⟨bP,aX HB⟩
      ·have c15b0:((bt a0_1 t102)==45)=false:=beq_eq_false_iff_ne.mpr c15
       have c15b1:((bt a0_1 t102) != 45)=true:=bne_iff_ne.mpr c15
       obtain rfl:=Option.some.inj H
       have hcz17_0:=aW BK101 0
       have hcz17_1:=aW BK101 1
       have hfz17_0:=aA BK101.out 0
       have hfz17_1:=aA BK101.out 1
       go_wp2_with (first|(go_at_call 113;(with_reducible refine (dP kj7 a0_0 x2_7 x1_4 x3_7 t102 _ A11.out).mono ?_);rintro e w' ⟨rfl,⟨nd,rfl⟩⟩;(try first|exact ⟨rfl,_,World.drewN_drewN _ _ _⟩|exact ⟨rfl,_,Eq.trans (World.drewN_drewN _ _ _) (congrArg (World.drewN _) (Nat.add_assoc _ _ _))⟩);have p14:0≤(t102:Int):=bI;have q14:t102<(a0_1.size:Int):=bI;have hx14:=lK a0_1 t102;replace p14:=eq_true p14;replace q14:=eq_true q14))
       repeat (go_quiet (first|(go_at_call 113;(with_reducible refine (dP kj7 a0_0 x2_7 x1_4 x3_7 t102 _ A11.out).mono ?_);rintro e w' ⟨rfl,⟨nd,rfl⟩⟩;(try first|exact ⟨rfl,_,World.drewN_drewN _ _ _⟩|exact ⟨rfl,_,Eq.trans (World.drewN_drewN _ _ _) (congrArg (World.drewN _) (Nat.add_assoc _ _ _))⟩);have p14:0≤(t102:Int):=bI;have q14:t102<(a0_1.size:Int):=bI;have hx14:=lK a0_1 t102;replace p14:=eq_true p14;replace q14:=eq_true q14));try go_wp2_with (first|(go_at_call 113;(with_reducible refine (dP kj7 a0_0 x2_7 x1_4 x3_7 t102 _ A11.out).mono ?_);rintro e w' ⟨rfl,⟨nd,rfl⟩⟩;(try first|exact ⟨rfl,_,World.drewN_drewN _ _ _⟩|exact ⟨rfl,_,Eq.trans (World.drewN_drewN _ _ _) (congrArg (World.drewN _) (Nat.add_assoc _ _ _))⟩);have p14:0≤(t102:Int):=bI;have q14:t102<(a0_1.size:Int):=bI;have hx14:=lK a0_1 t102;replace p14:=eq_true p14;replace q14:=eq_true q14)))
       go_ret
       exact ⟨bP,aX HB⟩
     ·replace H:=DB H
      obtain ⟨t103,A180,H⟩:=H
      have A18:=aE A180
      clear A180
      obtain ⟨c19b0,H⟩:=cV H
      obtain ⟨c20b0,H⟩:=cV H
      rcases jE H with ⟨c22,H⟩|⟨c22,H⟩
      ·have c22b0:((bt a0_1 t103)==45)=true:=beq_iff_eq.mpr c22
       have c22b1:((bt a0_1 t103) != 45)=false:=bne_eq_false_iff_eq.mpr c22
       clear c22
       obtain rfl:=Option.some.inj H
       have hcz23_0:=aW BK101 0
       have hcz23_1:=aW BK101 1
       have hfz23_0:=aA BK101.out 0
       have hfz23_1:=aA BK101.out 1
       go_wp2_with (first|(go_at_call 113;(with_reducible refine (dP kj7 a0_0 x1_4 x2_7 x3_7 t103 _ A18.out).mono ?_);rintro e w' ⟨rfl,⟨nd,rfl⟩⟩;(try first|exact ⟨rfl,_,World.drewN_drewN _ _ _⟩|exact ⟨rfl,_,Eq.trans (World.drewN_drewN _ _ _) (congrArg (World.drewN _) (Nat.add_assoc _ _ _))⟩);have p21:0≤(t103:Int):=bI;have q21:t103<(a0_1.size:Int):=bI;have hx21:=lK a0_1 t103;replace p21:=eq_true p21;replace q21:=eq_true q21))
       repeat (go_quiet (first|(go_at_call 113;(with_reducible refine (dP kj7 a0_0 x1_4 x2_7 x3_7 t103 _ A18.out).mono ?_);rintro e w' ⟨rfl,⟨nd,rfl⟩⟩;(try first|exact ⟨rfl,_,World.drewN_drewN _ _ _⟩|exact ⟨rfl,_,Eq.trans (World.drewN_drewN _ _ _) (congrArg (World.drewN _) (Nat.add_assoc _ _ _))⟩);have p21:0≤(t103:Int):=bI;have q21:t103<(a0_1.size:Int):=bI;have hx21:=lK a0_1 t103;replace p21:=eq_true p21;replace q21:=eq_true q21));try go_wp2_with (first|(go_at_call 113;(with_reducible refine (dP kj7 a0_0 x1_4 x2_7 x3_7 t103 _ A18.out).mono ?_);rintro e w' ⟨rfl,⟨nd,rfl⟩⟩;(try first|exact ⟨rfl,_,World.drewN_drewN _ _ _⟩|exact ⟨rfl,_,Eq.trans (World.drewN_drewN _ _ _) (congrArg (World.drewN _) (Nat.add_assoc _ _ _))⟩);have p21:0≤(t103:Int):=bI;have q21:t103<(a0_1.size:Int):=bI;have hx21:=lK a0_1 t103;replace p21:=eq_true p21;replace q21:=eq_true q21)))
       go_ret
       exact ⟨bP,aX HB⟩
      ·have c22b0:((bt a0_1 t103)==45)=false:=beq_eq_false_iff_ne.mpr c22
       have c22b1:((bt a0_1 t103) != 45)=true:=bne_iff_ne.mpr c22
       obtain rfl:=Option.some.inj H
       have hcz24_0:=aW BK101 0
       have hcz24_1:=aW BK101 1
       have hfz24_0:=aA BK101.out 0
       have hfz24_1:=aA BK101.out 1
       go_wp2_with (first|(go_at_call 113;(with_reducible refine (dP kj7 a0_0 x1_4 x2_7 x3_7 t103 _ A18.out).mono ?_);rintro e w' ⟨rfl,⟨nd,rfl⟩⟩;(try first|exact ⟨rfl,_,World.drewN_drewN _ _ _⟩|exact ⟨rfl,_,Eq.trans (World.drewN_drewN _ _ _) (congrArg (World.drewN _) (Nat.add_assoc _ _ _))⟩);have p21:0≤(t103:Int):=bI;have q21:t103<(a0_1.size:Int):=bI;have hx21:=lK a0_1 t103;replace p21:=eq_true p21;replace q21:=eq_true q21))
       repeat (go_quiet (first|(go_at_call 113;(with_reducible refine (dP kj7 a0_0 x1_4 x2_7 x3_7 t103 _ A18.out).mono ?_);rintro e w' ⟨rfl,⟨nd,rfl⟩⟩;(try first|exact ⟨rfl,_,World.drewN_drewN _ _ _⟩|exact ⟨rfl,_,Eq.trans (World.drewN_drewN _ _ _) (congrArg (World.drewN _) (Nat.add_assoc _ _ _))⟩);have p21:0≤(t103:Int):=bI;have q21:t103<(a0_1.size:Int):=bI;have hx21:=lK a0_1 t103;replace p21:=eq_true p21;replace q21:=eq_true q21));try go_wp2_with (first|(go_at_call 113;(with_reducible refine (dP kj7 a0_0 x1_4 x2_7 x3_7 t103 _ A18.out).mono ?_);rintro e w' ⟨rfl,⟨nd,rfl⟩⟩;(try first|exact ⟨rfl,_,World.drewN_drewN _ _ _⟩|exact ⟨rfl,_,Eq.trans (World.drewN_drewN _ _ _) (congrArg (World.drewN _) (Nat.add_assoc _ _ _))⟩);have p21:0≤(t103:Int):=bI;have q21:t103<(a0_1.size:Int):=bI;have hx21:=lK a0_1 t103;replace p21:=eq_true p21;replace q21:=eq_true q21)))
       go_ret
       exact ⟨bP,aX HB⟩
/-! ### spec_l4Breaks: function 115 -/
def spec_l4Breaks.f (k:Nat) (a0_0:Int) (a0_1:ByteArray) (a1:Int) (a2:Int) (a3:Int) (a4:Int) (a5:Int):Option (Bool):=(spec_l3At.f k a0_0 a0_1 a1 a2 a3).bind fun t102=>((spec_l3At.f k a0_0 a0_1 a1 a4 a5).bind fun t103=>((spec_l3At.f k a0_0 a0_1 a1 a2 a5).bind fun t104=>((spec_l3At.f k a0_0 a0_1 a1 a3 a4).bind fun t105=>((spec_l3At.f k a0_0 a0_1 a1 a2 a4).bind fun t106=>((spec_l3At.f k a0_0 a0_1 a1 a3 a5).bind fun t107=>(if (wrap64 (t102*t103))=(wrap64 (t104*t105)) then (some ((wrap64 (t104*t105))==(wrap64 ((wrap64 (-t106))*t107)))) else (some false)))))))
def sD:Bool×List (List Nat×List Nat):=(true,[([],[]),([],[]),([],[]),([],[]),([0,1,2,3],[0,1,2,3]),([],[]),([],[]),([],[]),([],[]),([5,6,7,8,4],[5,6,7,8]),([4,9],[4,9]),([10,9,0,1,2,3,4,5,6,7,8,9,10],[10])])
def AW:List Nat:=[0,0,0,0,15,0,0,0,0,511,1023,2047]
theorem qI:iQ .any (iS Tryz.f115 1)=sD:=by kernel_rfl
theorem oT:dM sD.2 AW=true:=by kernel_rfl
def sF:Bool×List (List Nat×List Nat):=(true,[([],[]),([],[]),([],[]),([],[]),([0,1,2,3],[0,1,2,3]),([],[]),([],[]),([],[]),([],[]),([5,6,7,8,4],[5,6,7,8]),([4,9],[4,9]),([10,9,0,1,2,3,4,5,6,7,8,9,10],[10])])
def AX:List Nat:=[0,0,0,0,15,0,0,0,0,511,1023,2047]
theorem qJ:iQ .any (iS Tryz.f115 2)=sF:=by kernel_rfl
theorem oU:dM sF.2 AX=true:=by kernel_rfl
def sG:Bool×List (List Nat×List Nat):=(true,[([],[]),([],[]),([],[]),([],[]),([0,1,2,3],[0,1,2,3]),([4],[4]),([],[]),([],[]),([],[]),([],[]),([6,7,8,9,4],[6,7,8,9]),([5,10],[5,10]),([11,10,0,1,2,3,4,5,6,7,8,9,10,11],[11])])
def AY:List Nat:=[0,0,0,0,15,31,0,0,0,0,991,2047,4095]
theorem qK:iQ .any (iS Tryz.f115 3)=sG:=by kernel_rfl
theorem oV:dM sG.2 AY=true:=by kernel_rfl
set_option maxHeartbeats 8000000 in
set_option maxRecDepth 100000 in
theorem oW (k:Nat) (a0_0:Int) (a0_1:ByteArray) (a1:Int) (a2:Int) (a3:Int) (a4:Int) (a5:Int) (r:Bool) (w:World) (h:spec_l4Breaks.f k a0_0 a0_1 a1 a2 a3 a4 a5=some r) :
  Calls Tryz.prog 115 #[.agg #[.int .i64 a0_0,.string a0_1],.int .i64 a1,.int .i64 a2,.int .i64 a3,.int .i64 a4,.int .i64 a5] w fun e w'=>e=.returned (.bool r)∧Below w.heap.size w w':=by
 have hu41:=Tryz.underlying41
 have HB:=aE (Below.refl w.heap.size w)
 unfold spec_l4Breaks.f at h
 have H:=h
 clear h
 replace H:=eM H
 obtain ⟨t102,A7,H⟩:=H
 replace H:=eM H
 obtain ⟨t103,A8,H⟩:=H
 replace H:=eM H
 obtain ⟨t104,A9,H⟩:=H
 replace H:=eM H
 obtain ⟨t105,A10,H⟩:=H
 replace H:=eM H
 obtain ⟨t106,A11,H⟩:=H
 replace H:=eM H
 obtain ⟨t107,A12,H⟩:=H
 rcases jE H with ⟨c13,H⟩|⟨c13,H⟩
 ·have c13b0:((wrap64 (t102*t103))==(wrap64 (t104*t105)))=true:=beq_iff_eq.mpr c13
  have c13b1:((wrap64 (t102*t103)) != (wrap64 (t104*t105)))=false:=bne_eq_false_iff_eq.mpr c13
  clear c13
  obtain rfl:=Option.some.inj H
  go_enter Tryz.func115,Tryz.ntmps115
  try go_wp2_with (first|((with_reducible refine aN (N:=6) rfl ?_);refine bV (N:=6) #[.int .i64 a0_0,.string a0_1] 41 ?_;intro gb101 hg w14 hbox hb;have BK101:=aE (hbox);have GW101:=aE ((dX HB hg));have GE101:=aE ((dX HB hg));replace HB:=aE (aD (aX HB) hb);clear hb hbox hg))
  replace BK101:=aE (aI BK101.out)
  replace HB:=aE (jK HB.out)
  refine dA (n:=12) (S:=fun w'=>w'.cell? ⟨gb101,0,none⟩=some (.int .i64 a0_0)∧w'.cell? ⟨gb101,1,none⟩=some (.string a0_1)) (ds:=[]) (bm 12 0) (by kernel_rfl) rfl rfl ⟨aW BK101 0,aW BK101 1⟩ (fun hHeld=>?_);refine bO qI oT (fun HT_ HW_=>?_)
  generalize w14.drew=w15 at BK101 HB hHeld ⊢
  refine bU ((0,1,17,2)::(0,2,18,6)::(0,3,19,14)::(0,6,22,78)::(0,7,23,206)::(0,8,24,462)::(2,0,16,463)::(2,5,21,495)::[]) ?_
  iterate 8 (first|refine jT HT_ ?_|refine pZ HT_ HW_ hHeld ?_)
  refine aU ?_
  refine dQ (i:=4) (N:=some 20) (bm 12 511) rfl rfl (bJ HT_.out (by kernel_rfl)) (by decide) (fun K hK=>?_)
  refine cN Tryz.func100 #[.agg #[.int .i64 a0_0,.string a0_1],.int .i64 a1,.int .i64 a2,.int .i64 a3] ?_
  with_reducible refine (cU k a0_0 a0_1 a1 a2 a3 t102 _ A7.out).mono ?_
  rintro e w16 ⟨rfl,hb⟩
  refine ⟨_,rfl,?_⟩
  replace BK101:=aE (bB BK101 hb)
  replace HB:=aE (aD (aX HB) hb)
  (try clear hb)
  refine hK.out _ _ ⟨aW BK101 0,aW BK101 1⟩ (fun hHeld=>?_)
  clear hK K
  refine gA ?_
  refine dQ (i:=9) (N:=some 25) (bm 12 1023) rfl rfl (bJ HT_.out (by kernel_rfl)) (by decide) (fun K hK=>?_)
  refine cN Tryz.func100 #[.agg #[.int .i64 a0_0,.string a0_1],.int .i64 a1,.int .i64 a4,.int .i64 a5] ?_
  with_reducible refine (cU k a0_0 a0_1 a1 a4 a5 t103 _ A8.out).mono ?_
  rintro e w17 ⟨rfl,hb⟩
  refine ⟨_,rfl,?_⟩
  replace BK101:=aE (bB BK101 hb)
  replace HB:=aE (aD (aX HB) hb)
  (try clear hb)
  refine hK.out _ _ ⟨aW BK101 0,aW BK101 1⟩ (fun hHeld=>?_)
  clear hK K
  refine gA ?_
  refine bU ((0,10,26,2047)::(0,11,13,4095)::[]) ?_
  iterate 2 (first|refine jT HT_ ?_)
  refine aU ?_
  refine eN (cK HT_.out (by kernel_rfl)) ?_
  try go_wp2
  replace BK101:=aE (aI BK101.out)
  replace HB:=aE (jK HB.out)
  refine dA (n:=12) (S:=fun w'=>w'.cell? ⟨gb101,0,none⟩=some (.int .i64 a0_0)∧w'.cell? ⟨gb101,1,none⟩=some (.string a0_1)) (ds:=[]) (bm 12 0) (by kernel_rfl) rfl rfl ⟨aW BK101 0,aW BK101 1⟩ (fun hHeld=>?_);refine bO qJ oU (fun HT_ HW_=>?_)
  generalize w17.drew=w18 at BK101 HB hHeld ⊢
  refine bU ((0,1,28,2)::(0,2,29,6)::(0,3,30,14)::(0,6,33,78)::(0,7,34,206)::(0,8,35,462)::(2,0,27,463)::(2,5,32,495)::[]) ?_
  iterate 8 (first|refine jT HT_ ?_|refine pZ HT_ HW_ hHeld ?_)
  refine aU ?_
  refine dQ (i:=4) (N:=some 31) (bm 12 511) rfl rfl (bJ HT_.out (by kernel_rfl)) (by decide) (fun K hK=>?_)
  refine cN Tryz.func100 #[.agg #[.int .i64 a0_0,.string a0_1],.int .i64 a1,.int .i64 a2,.int .i64 a5] ?_
  with_reducible refine (cU k a0_0 a0_1 a1 a2 a5 t104 _ A9.out).mono ?_
  rintro e w19 ⟨rfl,hb⟩
  refine ⟨_,rfl,?_⟩
  replace BK101:=aE (bB BK101 hb)
  replace HB:=aE (aD (aX HB) hb)
  (try clear hb)
  refine hK.out _ _ ⟨aW BK101 0,aW BK101 1⟩ (fun hHeld=>?_)
  clear hK K
  refine gA ?_
  refine dQ (i:=9) (N:=some 36) (bm 12 1023) rfl rfl (bJ HT_.out (by kernel_rfl)) (by decide) (fun K hK=>?_)
  refine cN Tryz.func100 #[.agg #[.int .i64 a0_0,.string a0_1],.int .i64 a1,.int .i64 a3,.int .i64 a4] ?_
  with_reducible refine (cU k a0_0 a0_1 a1 a3 a4 t105 _ A10.out).mono ?_
  rintro e w20 ⟨rfl,hb⟩
  refine ⟨_,rfl,?_⟩
  replace BK101:=aE (bB BK101 hb)
  replace HB:=aE (aD (aX HB) hb)
  (try clear hb)
  refine hK.out _ _ ⟨aW BK101 0,aW BK101 1⟩ (fun hHeld=>?_)
  clear hK K
  refine gA ?_
  refine bU ((0,10,37,2047)::(0,11,14,4095)::[]) ?_
  iterate 2 (first|refine jT HT_ ?_)
  refine aU ?_
  refine eN (cK HT_.out (by kernel_rfl)) ?_
  try go_wp2
  replace BK101:=aE (aI BK101.out)
  replace HB:=aE (jK HB.out)
  refine dA (n:=13) (S:=fun w'=>w'.cell? ⟨gb101,0,none⟩=some (.int .i64 a0_0)∧w'.cell? ⟨gb101,1,none⟩=some (.string a0_1)) (ds:=[]) (bm 13 0) (by kernel_rfl) rfl rfl ⟨aW BK101 0,aW BK101 1⟩ (fun hHeld=>?_);refine bO qK oV (fun HT_ HW_=>?_)
  generalize w20.drew=w21 at BK101 HB hHeld ⊢
  refine bU ((0,1,39,2)::(0,2,40,6)::(0,3,41,14)::(0,7,45,142)::(0,8,46,398)::(0,9,47,910)::(2,0,38,911)::(2,6,44,975)::[]) ?_
  iterate 8 (first|refine jT HT_ ?_|refine pZ HT_ HW_ hHeld ?_)
  refine aU ?_
  refine dQ (i:=4) (N:=some 42) (bm 13 991) rfl rfl (bJ HT_.out (by kernel_rfl)) (by decide) (fun K hK=>?_)
  refine cN Tryz.func100 #[.agg #[.int .i64 a0_0,.string a0_1],.int .i64 a1,.int .i64 a2,.int .i64 a4] ?_
  with_reducible refine (cU k a0_0 a0_1 a1 a2 a4 t106 _ A11.out).mono ?_
  rintro e w22 ⟨rfl,hb⟩
  refine ⟨_,rfl,?_⟩
  replace BK101:=aE (bB BK101 hb)
  replace HB:=aE (aD (aX HB) hb)
  (try clear hb)
  refine hK.out _ _ ⟨aW BK101 0,aW BK101 1⟩ (fun hHeld=>?_)
  clear hK K
  refine gA ?_
  refine bU ((0,5,43,1023)::[]) ?_
  iterate 1 (first|refine jT HT_ ?_)
  refine aU ?_
  refine dQ (i:=10) (N:=some 48) (bm 13 2047) rfl rfl (bJ HT_.out (by kernel_rfl)) (by decide) (fun K hK=>?_)
  refine cN Tryz.func100 #[.agg #[.int .i64 a0_0,.string a0_1],.int .i64 a1,.int .i64 a3,.int .i64 a5] ?_
  with_reducible refine (cU k a0_0 a0_1 a1 a3 a5 t107 _ A12.out).mono ?_
  rintro e w23 ⟨rfl,hb⟩
  refine ⟨_,rfl,?_⟩
  replace BK101:=aE (bB BK101 hb)
  replace HB:=aE (aD (aX HB) hb)
  (try clear hb)
  refine hK.out _ _ ⟨aW BK101 0,aW BK101 1⟩ (fun hHeld=>?_)
  clear hK K
  refine gA ?_
  refine bU ((0,11,49,4095)::(0,12,15,8191)::[]) ?_
  iterate 2 (first|refine jT HT_ ?_)
  refine aU ?_
  refine eN (cK HT_.out (by kernel_rfl)) ?_
  try go_wp2
  go_ret
  exact ⟨bP,aX HB⟩
 ·have c13b0:((wrap64 (t102*t103))==(wrap64 (t104*t105)))=false:=beq_eq_false_iff_ne.mpr c13
  have c13b1:((wrap64 (t102*t103)) != (wrap64 (t104*t105)))=true:=bne_iff_ne.mpr c13
  obtain rfl:=Option.some.inj H
  go_enter Tryz.func115,Tryz.ntmps115
  try go_wp2_with (first|((with_reducible refine aN (N:=6) rfl ?_);refine bV (N:=6) #[.int .i64 a0_0,.string a0_1] 41 ?_;intro gb101 hg w24 hbox hb;have BK101:=aE (hbox);have GW101:=aE ((dX HB hg));have GE101:=aE ((dX HB hg));replace HB:=aE (aD (aX HB) hb);clear hb hbox hg))
  replace BK101:=aE (aI BK101.out)
  replace HB:=aE (jK HB.out)
  refine dA (n:=12) (S:=fun w'=>w'.cell? ⟨gb101,0,none⟩=some (.int .i64 a0_0)∧w'.cell? ⟨gb101,1,none⟩=some (.string a0_1)) (ds:=[]) (bm 12 0) (by kernel_rfl) rfl rfl ⟨aW BK101 0,aW BK101 1⟩ (fun hHeld=>?_);refine bO qI oT (fun HT_ HW_=>?_)
  generalize w24.drew=w25 at BK101 HB hHeld ⊢
  refine bU ((0,1,17,2)::(0,2,18,6)::(0,3,19,14)::(0,6,22,78)::(0,7,23,206)::(0,8,24,462)::(2,0,16,463)::(2,5,21,495)::[]) ?_
  iterate 8 (first|refine jT HT_ ?_|refine pZ HT_ HW_ hHeld ?_)
  refine aU ?_
  refine dQ (i:=4) (N:=some 20) (bm 12 511) rfl rfl (bJ HT_.out (by kernel_rfl)) (by decide) (fun K hK=>?_)
  refine cN Tryz.func100 #[.agg #[.int .i64 a0_0,.string a0_1],.int .i64 a1,.int .i64 a2,.int .i64 a3] ?_
  with_reducible refine (cU k a0_0 a0_1 a1 a2 a3 t102 _ A7.out).mono ?_
  rintro e w26 ⟨rfl,hb⟩
  refine ⟨_,rfl,?_⟩
  replace BK101:=aE (bB BK101 hb)
  replace HB:=aE (aD (aX HB) hb)
  (try clear hb)
  refine hK.out _ _ ⟨aW BK101 0,aW BK101 1⟩ (fun hHeld=>?_)
  clear hK K
  refine gA ?_
  refine dQ (i:=9) (N:=some 25) (bm 12 1023) rfl rfl (bJ HT_.out (by kernel_rfl)) (by decide) (fun K hK=>?_)
  refine cN Tryz.func100 #[.agg #[.int .i64 a0_0,.string a0_1],.int .i64 a1,.int .i64 a4,.int .i64 a5] ?_
  with_reducible refine (cU k a0_0 a0_1 a1 a4 a5 t103 _ A8.out).mono ?_
  rintro e w27 ⟨rfl,hb⟩
  refine ⟨_,rfl,?_⟩
  replace BK101:=aE (bB BK101 hb)
  replace HB:=aE (aD (aX HB) hb)
  (try clear hb)
  refine hK.out _ _ ⟨aW BK101 0,aW BK101 1⟩ (fun hHeld=>?_)
  clear hK K
  refine gA ?_
  refine bU ((0,10,26,2047)::(0,11,13,4095)::[]) ?_
  iterate 2 (first|refine jT HT_ ?_)
  refine aU ?_
  refine eN (cK HT_.out (by kernel_rfl)) ?_
  try go_wp2
  replace BK101:=aE (aI BK101.out)
  replace HB:=aE (jK HB.out)
  refine dA (n:=12) (S:=fun w'=>w'.cell? ⟨gb101,0,none⟩=some (.int .i64 a0_0)∧w'.cell? ⟨gb101,1,none⟩=some (.string a0_1)) (ds:=[]) (bm 12 0) (by kernel_rfl) rfl rfl ⟨aW BK101 0,aW BK101 1⟩ (fun hHeld=>?_);refine bO qJ oU (fun HT_ HW_=>?_)
  generalize w27.drew=w28 at BK101 HB hHeld ⊢
  refine bU ((0,1,28,2)::(0,2,29,6)::(0,3,30,14)::(0,6,33,78)::(0,7,34,206)::(0,8,35,462)::(2,0,27,463)::(2,5,32,495)::[]) ?_
  iterate 8 (first|refine jT HT_ ?_|refine pZ HT_ HW_ hHeld ?_)
  refine aU ?_
  refine dQ (i:=4) (N:=some 31) (bm 12 511) rfl rfl (bJ HT_.out (by kernel_rfl)) (by decide) (fun K hK=>?_)
  refine cN Tryz.func100 #[.agg #[.int .i64 a0_0,.string a0_1],.int .i64 a1,.int .i64 a2,.int .i64 a5] ?_
  with_reducible refine (cU k a0_0 a0_1 a1 a2 a5 t104 _ A9.out).mono ?_
  rintro e w29 ⟨rfl,hb⟩
  refine ⟨_,rfl,?_⟩
  replace BK101:=aE (bB BK101 hb)
  replace HB:=aE (aD (aX HB) hb)
  (try clear hb)
  refine hK.out _ _ ⟨aW BK101 0,aW BK101 1⟩ (fun hHeld=>?_)
  clear hK K
  refine gA ?_
  refine dQ (i:=9) (N:=some 36) (bm 12 1023) rfl rfl (bJ HT_.out (by kernel_rfl)) (by decide) (fun K hK=>?_)
  refine cN Tryz.func100 #[.agg #[.int .i64 a0_0,.string a0_1],.int .i64 a1,.int .i64 a3,.int .i64 a4] ?_
  with_reducible refine (cU k a0_0 a0_1 a1 a3 a4 t105 _ A10.out).mono ?_
  rintro e w30 ⟨rfl,hb⟩
  refine ⟨_,rfl,?_⟩
  replace BK101:=aE (bB BK101 hb)
  replace HB:=aE (aD (aX HB) hb)
  (try clear hb)
  refine hK.out _ _ ⟨aW BK101 0,aW BK101 1⟩ (fun hHeld=>?_)
  clear hK K
  refine gA ?_
  refine bU ((0,10,37,2047)::(0,11,14,4095)::[]) ?_
  iterate 2 (first|refine jT HT_ ?_)
  refine aU ?_
  refine eN (cK HT_.out (by kernel_rfl)) ?_
  try go_wp2
  replace BK101:=aE (aI BK101.out)
  replace HB:=aE (jK HB.out)
  refine dA (n:=13) (S:=fun w'=>w'.cell? ⟨gb101,0,none⟩=some (.int .i64 a0_0)∧w'.cell? ⟨gb101,1,none⟩=some (.string a0_1)) (ds:=[]) (bm 13 0) (by kernel_rfl) rfl rfl ⟨aW BK101 0,aW BK101 1⟩ (fun hHeld=>?_);refine bO qK oV (fun HT_ HW_=>?_)
  generalize w30.drew=w31 at BK101 HB hHeld ⊢
  refine bU ((0,1,39,2)::(0,2,40,6)::(0,3,41,14)::(0,7,45,142)::(0,8,46,398)::(0,9,47,910)::(2,0,38,911)::(2,6,44,975)::[]) ?_
  iterate 8 (first|refine jT HT_ ?_|refine pZ HT_ HW_ hHeld ?_)
  refine aU ?_
  refine dQ (i:=4) (N:=some 42) (bm 13 991) rfl rfl (bJ HT_.out (by kernel_rfl)) (by decide) (fun K hK=>?_)
  refine cN Tryz.func100 #[.agg #[.int .i64 a0_0,.string a0_1],.int .i64 a1,.int .i64 a2,.int .i64 a4] ?_
  with_reducible refine (cU k a0_0 a0_1 a1 a2 a4 t106 _ A11.out).mono ?_
  rintro e w32 ⟨rfl,hb⟩
  refine ⟨_,rfl,?_⟩
  replace BK101:=aE (bB BK101 hb)
  replace HB:=aE (aD (aX HB) hb)
  (try clear hb)
  refine hK.out _ _ ⟨aW BK101 0,aW BK101 1⟩ (fun hHeld=>?_)
  clear hK K
  refine gA ?_
  refine bU ((0,5,43,1023)::[]) ?_
  iterate 1 (first|refine jT HT_ ?_)
  refine aU ?_
  refine dQ (i:=10) (N:=some 48) (bm 13 2047) rfl rfl (bJ HT_.out (by kernel_rfl)) (by decide) (fun K hK=>?_)
  refine cN Tryz.func100 #[.agg #[.int .i64 a0_0,.string a0_1],.int .i64 a1,.int .i64 a3,.int .i64 a5] ?_
  with_reducible refine (cU k a0_0 a0_1 a1 a3 a5 t107 _ A12.out).mono ?_
  rintro e w33 ⟨rfl,hb⟩
  refine ⟨_,rfl,?_⟩
  replace BK101:=aE (bB BK101 hb)
  replace HB:=aE (aD (aX HB) hb)
  (try clear hb)
  refine hK.out _ _ ⟨aW BK101 0,aW BK101 1⟩ (fun hHeld=>?_)
  clear hK K
  refine gA ?_
  refine bU ((0,11,49,4095)::(0,12,15,8191)::[]) ?_
  iterate 2 (first|refine jT HT_ ?_)
  refine aU ?_
  refine eN (cK HT_.out (by kernel_rfl)) ?_
  try go_wp2
  go_ret
  exact ⟨bP,aX HB⟩
/-! ### spec_FirstBreak: function 102 -/
mutual
def fK:Nat→Int→Int→ByteArray→Option (List Int)
 | 0,_,_,_=>none
 | k+1,x3,x102000,x102001=>if x3<x102000 then ((spec_AreSigns.f k x102000 x102001).bind fun t102=>(fL k x3 t102 x102000 x102001)) else (fL k x3 false x102000 x102001)
def fL:Nat→Int→Bool→Int→ByteArray→Option (List Int)
 | 0,_,_,_,_=>none
 | k+1,x3,x16,x102000,x102001=>if x16=true then ((spec_l3Others.f k x102000 x3).bind fun t106=>(eP k x3 t106 0 x102000 x102001)) else (some (([]:List Int)))
def eP:Nat→Int→List Int→Int→Int→ByteArray→Option (List Int)
 | 0,_,_,_,_,_=>none
 | k+1,x3,x4,x5,x102000,x102001=>if x5<(x4.length:Int) then (eQ k x3 x4 x5 (wrap64 (x5+1)) x102000 x102001) else (fK k (wrap64 (x3+1)) x102000 x102001)
def eQ:Nat→Int→List Int→Int→Int→Int→ByteArray→Option (List Int)
 | 0,_,_,_,_,_,_=>none
 | k+1,x3,x4,x5,x6,x102000,x102001=>if x6<(x4.length:Int) then (eR k x3 x4 x5 x6 (wrap64 (x6+1)) x102000 x102001) else (eP k x3 x4 (wrap64 (x5+1)) x102000 x102001)
def eR:Nat→Int→List Int→Int→Int→Int→Int→ByteArray→Option (List Int)
 | 0,_,_,_,_,_,_,_=>none
 | k+1,x3,x4,x5,x6,x7,x102000,x102001=>if x7<(x4.length:Int) then (eS k x3 x4 x5 x6 x7 (wrap64 (x7+1)) x102000 x102001) else (eQ k x3 x4 x5 (wrap64 (x6+1)) x102000 x102001)
def eS:Nat→Int→List Int→Int→Int→Int→Int→Int→ByteArray→Option (List Int)
 | 0,_,_,_,_,_,_,_,_=>none
 | k+1,x3,x4,x5,x6,x7,x8,x102000,x102001=>if x8<(x4.length:Int) then (if 0≤x5 then (if x5<(x4.length:Int) then (if 0≤x6 then (if x6<(x4.length:Int) then (if 0≤x7 then (if x7<(x4.length:Int) then (if 0≤x8 then ((spec_l4Breaks.f k x102000 x102001 x3 (rd x4 x5) (rd x4 x6) (rd x4 x7) (rd x4 x8)).bind fun t113=>(if t113=true then (some (([x3,rd x4 x5,rd x4 x6,rd x4 x7,rd x4 x8]:List Int))) else (eS k x3 x4 x5 x6 x7 (wrap64 (x8+1)) x102000 x102001))) else (none)) else (none)) else (none)) else (none)) else (none)) else (none)) else (none)) else (eR k x3 x4 x5 x6 (wrap64 (x7+1)) x102000 x102001)
end
def spec_FirstBreak.f (k:Nat) (a0_0:Int) (a0_1:ByteArray):Option (List Int):=fK k 0 a0_0 a0_1
def oX:Bool×List (List Nat×List Nat):=(true,[([],[]),([],[]),([],[]),([],[]),([2,3],[2,3]),([4],[4]),([],[]),([],[]),([6,7],[6,7]),([8],[8]),([],[]),([],[]),([10,11],[10,11]),([12],[12]),([],[]),([],[]),([14,15],[14,15]),([16],[16]),([0,1,5,9,13,17],[0,1,5,9,13,17])])
def wT:List Nat:=[0,0,0,0,12,28,0,0,192,448,0,0,3072,7168,0,0,49152,114688,262143]
theorem nG:iQ .any (iS Tryz.f102 17)=oX:=by kernel_rfl
theorem mS:dM oX.2 wT=true:=by kernel_rfl
def oY:Bool×List (List Nat×List Nat):=(true,[([],[]),([],[]),([],[]),([1,2],[1,2]),([3],[3]),([],[]),([],[]),([5,6],[5,6]),([7],[7]),([],[]),([],[]),([9,10],[9,10]),([11],[11]),([],[]),([],[]),([13,14],[13,14]),([15],[15]),([0,4,8,12,16],[0,4,8,12,16]),([17,0,1,2,3,4,5,6,7,8,9,10,11,12,13,14,15,16,17],[17])])
def wU:List Nat:=[0,0,0,6,14,0,0,96,224,0,0,1536,3584,0,0,24576,57344,131071,262143]
theorem uN:iQ .any (iS Tryz.f102 18)=oY:=by kernel_rfl
theorem tD:dM oY.2 wU=true:=by kernel_rfl
set_option maxHeartbeats 8000000 in
set_option maxRecDepth 100000 in
theorem uO (k : Nat) (a0_0 : Int) (a0_1 : ByteArray) (r : List Int) (w : World) (h : spec_FirstBreak.f k a0_0 a0_1 = some r) :
  Calls Tryz.prog 102 #[.agg #[.int .i64 a0_0,.string a0_1]] w fun e w'=>∃ v0_:Value,e=.returned (v0_)∧Kd.R (Kd.int .i64) 3 w' w.heap.size (fun _=>True) v0_ r∧Below w.heap.size w w':=by
 have hu41:=Tryz.underlying41
 have HB:=aE (Below.refl w.heap.size w)
 unfold spec_FirstBreak.f at h
 have H:=h
 clear h
 have H':=aE H
 clear H
 go_enter Tryz.func102,Tryz.ntmps102
 go_wp2_with (first|((with_reducible refine aN (N:=1) rfl ?_);refine bV (N:=1) #[.int .i64 a0_0,.string a0_1] 41 ?_;intro gb101 hg w2 hbox hb;have BK101:=aE (hbox);have GW101:=aE ((dX HB hg));have GE101:=aE ((dX HB hg));replace HB:=aE (aD (aX HB) hb);clear hb hbox hg))
 go_loopg [3] k (fun kq v3 w'=>∃ (x3_1:Int),v3=.int .i64 x3_1∧Aside0 (fK kq x3_1 a0_0 a0_1=some r)∧Aside0 (kq≤k)∧Aside0 (w'.heap[gb101]? = some (.cells #[.int .i64 a0_0,.string a0_1] 41 (0,0)))∧Aside0 (Below w.heap.size w w'))
 case atStart=>exact ⟨(0),aH,H',⟨Nat.le_refl _⟩,⟨fO BK101⟩,⟨aX HB⟩⟩
 case round =>
  clear H'
  obtain ⟨x3_1,rfl,HA,HK1,BK101,HB⟩:=hrel
  cases gk with
  | zero=>exact absurd HA.out (by simp [fK])
  | succ k1 =>
   have H:=HA.out
   clear HA
   simp only [fK] at H
   have HC3:=aE H
   clear H
   go_upto_region 2 with (fail)
   go_cut [16] (fun v16 wc=>∃ (kq:Nat) (x16_2:Bool),v16=.bool x16_2∧Aside0 (fL kq x3_1 x16_2 a0_0 a0_1=some r)∧Aside0 (kq≤k1)∧Aside0 (wc.heap[gb101]? = some (.cells #[.int .i64 a0_0,.string a0_1] 41 (0,0)))∧Aside0 (Below w.heap.size w wc))
   case first =>
    have H:=HC3.out
    clear HC3
    rcases eV H with ⟨c4b0,H⟩|⟨c4b0,H⟩
    ·(first|rw [c4b0]|(simp only [cC,dW];rw [c4b0])|skip)
     replace H:=eM H
     obtain ⟨t102,A5,H⟩:=H
     have H':=aE H
     clear H
     have hcz6_0:=aW BK101 0
     have hcz6_1:=aW BK101 1
     have hfz6_0:=aA BK101.out 0
     have hfz6_1:=aA BK101.out 1
     go_wp2_with (first|(go_at_call 101;(with_reducible refine (lZ k1 a0_0 a0_1 t102 _ A5.out).mono ?_);rintro e w7 ⟨rfl,hb⟩;replace BK101:=aE (bB BK101 hb);replace HB:=aE (aD (aX HB) hb);(try clear hb);(try clear hk)))
     go_meet
     case rel=>exact ⟨_,(t102),aH,H',⟨RK HK1⟩,⟨fO BK101⟩,⟨aX HB⟩⟩
    ·(first|rw [c4b0]|(simp only [cC,dW];rw [c4b0])|skip)
     have H':=aE H
     clear H
     have hcz8_0:=aW BK101 0
     have hcz8_1:=aW BK101 1
     have hfz8_0:=aA BK101.out 0
     have hfz8_1:=aA BK101.out 1
     go_wp2
     go_meet
     case rel=>exact ⟨_,(false),aH,H',⟨RK HK1⟩,⟨fO BK101⟩,⟨aX HB⟩⟩
   case rest =>
    clear HC3
    try clear c4b0
    try clear hcz6_0
    try clear hcz6_1
    try clear hcz8_0
    try clear hcz8_1
    try clear hfz6_0
    try clear hfz6_1
    try clear hfz8_0
    try clear hfz8_1
    obtain ⟨kq,x16_2,rfl,HA,HJ2,BK101,HB⟩:=hcut
    cases kq with
    | zero=>exact absurd HA.out (by simp [fL])
    | succ kj2 =>
     have H:=HA.out
     clear HA
     simp only [fL] at H
     by_cases c9:x16_2=true
     ·subst c9
      rw [if_pos rfl] at H
      replace H:=eM H
      obtain ⟨t106,A10,H⟩:=H
      have H':=aE H
      clear H
      have hcz11_0:=aW BK101 0
      have hcz11_1:=aW BK101 1
      have hfz11_0:=aA BK101.out 0
      have hfz11_1:=aA BK101.out 1
      go_wp2_with (first|((with_reducible refine aJ (f:=114) rfl ?_);refine aV (some 22) Tryz.func114 #[.int .i64 a0_0,.int .i64 x3_1] ?_;(with_reducible refine (wS kj2 a0_0 x3_1 t106 _ A10.out).mono ?_);rintro e w12 ⟨v107,rfl,ho0,hb⟩;refine ⟨_,rfl,?_⟩;have HO108:=aE (Kd.R_lower ho0 (aT (aX HB)));replace BK101:=aE (bB BK101 hb);replace HB:=aE (aD (aX HB) hb);(try clear hb);(try clear hk);(try clear ho0)))
      go_loopg [5] kj2 (fun kq v5 w'=>∃ (x5_3:Int),v5=.int .i64 x5_3∧Aside0 (eP kq x3_1 t106 x5_3 a0_0 a0_1=some r)∧Aside0 (kq≤kj2)∧Aside0 (Kd.R (Kd.int .i64) 3 w' w.heap.size (fun _=>True) v107 t106)∧Aside0 (w'.heap[gb101]? = some (.cells #[.int .i64 a0_0,.string a0_1] 41 (0,0)))∧Aside0 (Below w.heap.size w w'))
      case atStart=>exact ⟨(0),aH,H',⟨Nat.le_refl _⟩,⟨bN HO108⟩,⟨fO BK101⟩,⟨aX HB⟩⟩
      case round =>
       clear H'
       try clear c4b0
       try clear c9
       try clear hcz11_0
       try clear hcz11_1
       try clear hcz6_0
       try clear hcz6_1
       try clear hcz8_0
       try clear hcz8_1
       try clear hfz11_0
       try clear hfz11_1
       try clear hfz6_0
       try clear hfz6_1
       try clear hfz8_0
       try clear hfz8_1
       obtain ⟨x5_3,rfl,HA,HK3,HO_4,BK101,HB⟩:=hrel
       cases gk with
       | zero=>exact absurd HA.out (by simp [eP])
       | succ k3 =>
        have H:=HA.out
        clear HA
        simp only [eP] at H
        rcases eV H with ⟨c13b0,H⟩|⟨c13b0,H⟩
        ·have H' := aE H
         clear H
         obtain ⟨Ao14,co14,eo14⟩:=Kd.R_slice HO_4.out
         subst eo14
         go_wp2
         go_loopg [6] k3 (fun kq v6 w'=>∃ (x6_4:Int),v6=.int .i64 x6_4∧Aside0 (eQ kq x3_1 t106 x5_3 x6_4 a0_0 a0_1=some r)∧Aside0 (kq≤k3)∧Aside0 (Kd.R (Kd.int .i64) 3 w' w.heap.size (fun _=>True) (.slice Ao14 t106.length co14) t106)∧Aside0 (w'.heap[gb101]? = some (.cells #[.int .i64 a0_0,.string a0_1] 41 (0,0)))∧Aside0 (Below w.heap.size w w'))
         case atStart=>exact ⟨(wrap64 (x5_3+1)),aH,H',⟨Nat.le_refl _⟩,⟨bN HO_4⟩,⟨fO BK101⟩,⟨aX HB⟩⟩
         case round =>
          clear H'
          try clear c4b0
          try clear c9
          try clear c13b0
          try clear hcz11_0
          try clear hcz11_1
          try clear hcz6_0
          try clear hcz6_1
          try clear hcz8_0
          try clear hcz8_1
          try clear hfz11_0
          try clear hfz11_1
          try clear hfz6_0
          try clear hfz6_1
          try clear hfz8_0
          try clear hfz8_1
          obtain ⟨x6_4,rfl,HA,HK4,HO_4,BK101,HB⟩:=hrel
          cases gk with
          | zero=>exact absurd HA.out (by simp [eQ])
          | succ k4 =>
           have H:=HA.out
           clear HA
           simp only [eQ] at H
           rcases eV H with ⟨c15b0,H⟩|⟨c15b0,H⟩
           ·have H' := aE H
            clear H
            go_wp2
            go_loopg [7] k4 (fun kq v7 w'=>∃ (x7_5:Int),v7=.int .i64 x7_5∧Aside0 (eR kq x3_1 t106 x5_3 x6_4 x7_5 a0_0 a0_1=some r)∧Aside0 (kq≤k4)∧Aside0 (Kd.R (Kd.int .i64) 3 w' w.heap.size (fun _=>True) (.slice Ao14 t106.length co14) t106)∧Aside0 (w'.heap[gb101]? = some (.cells #[.int .i64 a0_0,.string a0_1] 41 (0,0)))∧Aside0 (Below w.heap.size w w'))
            case atStart=>exact ⟨(wrap64 (x6_4+1)),aH,H',⟨Nat.le_refl _⟩,⟨bN HO_4⟩,⟨fO BK101⟩,⟨aX HB⟩⟩
            case round =>
             clear H'
             try clear c4b0
             try clear c9
             try clear c13b0
             try clear c15b0
             try clear hcz11_0
             try clear hcz11_1
             try clear hcz6_0
             try clear hcz6_1
             try clear hcz8_0
             try clear hcz8_1
             try clear hfz11_0
             try clear hfz11_1
             try clear hfz6_0
             try clear hfz6_1
             try clear hfz8_0
             try clear hfz8_1
             obtain ⟨x7_5,rfl,HA,HK5,HO_4,BK101,HB⟩:=hrel
             cases gk with
             | zero=>exact absurd HA.out (by simp [eR])
             | succ k5 =>
              have H:=HA.out
              clear HA
              simp only [eR] at H
              rcases eV H with ⟨c16b0,H⟩|⟨c16b0,H⟩
              ·have H':=aE H
               clear H
               go_wp2
               go_loopg [8] k5 (fun kq v8 w'=>∃ (x8_6:Int),v8=.int .i64 x8_6∧Aside0 (eS kq x3_1 t106 x5_3 x6_4 x7_5 x8_6 a0_0 a0_1=some r)∧Aside0 (kq≤k5)∧Aside0 (Kd.R (Kd.int .i64) 3 w' w.heap.size (fun _=>True) (.slice Ao14 t106.length co14) t106)∧Aside0 (w'.heap[gb101]? = some (.cells #[.int .i64 a0_0,.string a0_1] 41 (0,0)))∧Aside0 (Below w.heap.size w w'))
               case atStart=>exact ⟨(wrap64 (x7_5+1)),aH,H',⟨Nat.le_refl _⟩,⟨bN HO_4⟩,⟨fO BK101⟩,⟨aX HB⟩⟩
               case round =>
                clear H'
                try clear c4b0
                try clear c9
                try clear c13b0
                try clear c15b0
                try clear c16b0
                try clear hcz11_0
                try clear hcz11_1
                try clear hcz6_0
                try clear hcz6_1
                try clear hcz8_0
                try clear hcz8_1
                try clear hfz11_0
                try clear hfz11_1
                try clear hfz6_0
                try clear hfz6_1
                try clear hfz8_0
                try clear hfz8_1
                obtain ⟨x8_6,rfl,HA,HK6,HO_4,BK101,HB⟩:=hrel
                cases gk with
                | zero=>exact absurd HA.out (by simp [eS])
                | succ k6 =>
                 have H:=HA.out
                 clear HA
                 simp only [eS] at H
                 rcases eV H with ⟨c17b0,H⟩|⟨c17b0,H⟩
                 ·obtain ⟨c18b0,H⟩:=cV H
                  obtain ⟨c19b0,H⟩:=cV H
                  obtain ⟨c20b0,H⟩:=cV H
                  obtain ⟨c21b0,H⟩:=cV H
                  obtain ⟨c22b0,H⟩:=cV H
                  obtain ⟨c23b0,H⟩:=cV H
                  obtain ⟨c24b0,H⟩:=cV H
                  replace H:=eM H
                  obtain ⟨t113,A25,H⟩:=H
                  by_cases c26:t113=true
                  ·subst c26
                   rw [if_pos rfl] at H
                   obtain ⟨y118,hy118⟩:∃ y_:List Int,y_=(([x3_1,rd t106 x5_3,rd t106 x6_4,rd t106 x7_5,rd t106 x8_6]:List Int)):=⟨_,rfl⟩
                   first|(with_reducible replace H:=oO hy118 H)|(with_reducible replace H:=oP hy118 H)|rw [← hy118] at H
                   have Ny118:=aE hy118
                   clear hy118
                   obtain rfl:=Option.some.inj H
                   try go_wp2
                   replace HO_4:=aE (gU HO_4.out)
                   replace BK101:=aE (aI BK101.out)
                   replace HB:=aE (jK HB.out)
                   obtain ⟨p109,q109,ad109,e109,hx109_0⟩:=jP (Kd.at_int (Kd.R_reads' HO_4.out).2.2 x5_3)
                   cases e109
                   obtain ⟨p110,q110,ad110,e110,hx110_0⟩:=jP (Kd.at_int (Kd.R_reads' HO_4.out).2.2 x6_4)
                   obtain rfl:ad109=ad110:=(by injection e110)
                   obtain ⟨p111,q111,ad111,e111,hx111_0⟩:=jP (Kd.at_int (Kd.R_reads' HO_4.out).2.2 x7_5)
                   obtain rfl:ad109=ad111:=(by injection e111)
                   obtain ⟨p112,q112,ad112,e112,hx112_0⟩:=jP (Kd.at_int (Kd.R_reads' HO_4.out).2.2 x8_6)
                   obtain rfl:ad109=ad112:=(by injection e112)
                   refine dA (n:=19) (S:=fun w'=>w'.cell? ⟨gb101,0,none⟩=some (.int .i64 a0_0)∧w'.cell? ⟨gb101,1,none⟩=some (.string a0_1)∧w'.cell? (ad109.add (x5_3).toNat)=some (.int .i64 (rd t106 x5_3))∧w'.cell? (ad109.add (x6_4).toNat)=some (.int .i64 (rd t106 x6_4))∧w'.cell? (ad109.add (x7_5).toNat)=some (.int .i64 (rd t106 x7_5))∧w'.cell? (ad109.add (x8_6).toNat)=some (.int .i64 (rd t106 x8_6))) (ds:=[]) (bm 19 0) (by kernel_rfl) rfl rfl ⟨aW BK101 0,aW BK101 1,hx109_0,hx110_0,hx111_0,hx112_0⟩ (fun hHeld=>?_);refine bO nG mS (fun HT_ HW_=>?_)
                   generalize wr.drew=w27 at HO_4 BK101 HB hx109_0 hx110_0 hx111_0 hx112_0 hHeld ⊢
                   refine bU ((0,1,54,2)::(0,2,55,6)::(0,3,56,14)::(0,4,57,30)::(0,6,59,94)::(0,7,60,222)::(0,8,61,478)::(0,10,63,1502)::(0,11,64,3550)::(0,12,65,7646)::(0,14,67,24030)::(0,15,68,56798)::(0,16,69,122334)::(2,0,53,122335)::(2,5,58,122367)::(2,9,62,122879)::(2,13,66,131071)::(2,17,70,262143)::[]) ?_
                   iterate 18 (first|refine jT HT_ ?_|refine pZ HT_ HW_ hHeld ?_)
                   refine aU ?_
                   refine dQ (i:=18) (N:=some 71) (bm 19 524287) rfl rfl (bJ HT_.out (by kernel_rfl)) (by decide) (fun K hK=>?_)
                   refine cN Tryz.func115 #[.agg #[.int .i64 a0_0,.string a0_1],.int .i64 x3_1,.int .i64 (rd t106 x5_3),.int .i64 (rd t106 x6_4),.int .i64 (rd t106 x7_5),.int .i64 (rd t106 x8_6)] ?_
                   with_reducible refine (oW k6 a0_0 a0_1 x3_1 (rd t106 x5_3) (rd t106 x6_4) (rd t106 x7_5) (rd t106 x8_6) true _ A25.out).mono ?_
                   rintro e w28 ⟨rfl,hb⟩
                   have HS2_:=uV hb hHeld.2.2.1
                   have HS3_:=uV hb hHeld.2.2.2.1
                   have HS4_:=uV hb hHeld.2.2.2.2.1
                   have HS5_:=uV hb hHeld.2.2.2.2.2
                   refine ⟨_,rfl,?_⟩
                   replace HO_4:=aE (Kd.R_below (bN HO_4) hb)
                   replace BK101:=aE (bB BK101 hb)
                   replace HB:=aE (aD (aX HB) hb)
                   (try clear hb)
                   (try clear hk)
                   refine hK.out _ _ ⟨aW BK101 0,aW BK101 1,HS2_,HS3_,HS4_,HS5_⟩ (fun hHeld=>?_)
                   clear hK K
                   refine gA ?_
                   refine eN (cK HT_.out (by kernel_rfl)) ?_
                   try go_wp2
                   replace HO_4:=aE (gU HO_4.out)
                   replace BK101:=aE (aI BK101.out)
                   replace HB:=aE (jK HB.out)
                   obtain ⟨p114,q114,ad114,e114,hx114_0⟩:=jP (Kd.at_int (Kd.R_reads' HO_4.out).2.2 x5_3)
                   obtain rfl:ad109=ad114:=(by injection e114)
                   obtain ⟨p115,q115,ad115,e115,hx115_0⟩:=jP (Kd.at_int (Kd.R_reads' HO_4.out).2.2 x6_4)
                   obtain rfl:ad109=ad115:=(by injection e115)
                   obtain ⟨p116,q116,ad116,e116,hx116_0⟩:=jP (Kd.at_int (Kd.R_reads' HO_4.out).2.2 x7_5)
                   obtain rfl:ad109=ad116:=(by injection e116)
                   obtain ⟨p117,q117,ad117,e117,hx117_0⟩:=jP (Kd.at_int (Kd.R_reads' HO_4.out).2.2 x8_6)
                   obtain rfl:ad109=ad117:=(by injection e117)
                   refine dA (n:=19) (S:=fun w'=>w'.cell? (ad109.add (x5_3).toNat)=some (.int .i64 (rd t106 x5_3))∧w'.cell? (ad109.add (x6_4).toNat)=some (.int .i64 (rd t106 x6_4))∧w'.cell? (ad109.add (x7_5).toNat)=some (.int .i64 (rd t106 x7_5))∧w'.cell? (ad109.add (x8_6).toNat)=some (.int .i64 (rd t106 x8_6))) (ds:=[]) (bm 19 0) (by kernel_rfl) rfl rfl ⟨hx114_0,hx115_0,hx116_0,hx117_0⟩ (fun hHeld=>?_);refine bO uN tD (fun HT_ HW_=>?_)
                   generalize w28.drew=w29 at HO_4 BK101 HB hx114_0 hx115_0 hx116_0 hx117_0 hHeld ⊢
                   refine bU ((0,0,72,1)::(0,1,73,3)::(0,2,74,7)::(0,3,75,15)::(0,5,77,47)::(0,6,78,111)::(0,7,79,239)::(0,9,81,751)::(0,10,82,1775)::(0,11,83,3823)::(0,13,85,12015)::(0,14,86,28399)::(0,15,87,61167)::(2,4,76,61183)::(2,8,80,61439)::(2,12,84,65535)::(2,16,88,131071)::[]) ?_
                   iterate 17 (first|refine jT HT_ ?_|refine pZ HT_ HW_ hHeld ?_)
                   refine aU ?_
                   refine dQ (i:=17) (N:=some 89) (bm 19 262143) rfl rfl (bJ HT_.out (by kernel_rfl)) (by decide) (fun K hK=>?_)
                   refine Kd.R_lit_step (Kd.int .i64) _ 3 ?hg (N:=89) ?hd (xs:=([x3_1,rd t106 x5_3,rd t106 x6_4,rd t106 x7_5,rd t106 x8_6]:List Int)) (inner:=[.int .i64 x3_1,.int .i64 (rd t106 x5_3),.int .i64 (rd t106 x6_4),.int .i64 (rd t106 x7_5),.int .i64 (rd t106 x8_6)]) (ok:=fun _=>True) (okp:=fun _=>True) ?hr ?hp (fun _ hk=>hk) trivial (Below.refl _ _) (Nat.le_refl _) (by simp) ?_;(case hd=>rfl);(case hg=>rfl);(case hr=>first|(go_simp;done)|(go_simp;rfl));(case hp=>exact (dG (show Kd.M (Kd.int .i64) _ _ _ x3_1 [.int .i64 x3_1] from rfl) (dG (show Kd.M (Kd.int .i64) _ _ _ (rd t106 x5_3) [.int .i64 (rd t106 x5_3)] from rfl) (dG (show Kd.M (Kd.int .i64) _ _ _ (rd t106 x6_4) [.int .i64 (rd t106 x6_4)] from rfl) (dG (show Kd.M (Kd.int .i64) _ _ _ (rd t106 x7_5) [.int .i64 (rd t106 x7_5)] from rfl) (dG (show Kd.M (Kd.int .i64) _ _ _ (rd t106 x8_6) [.int .i64 (rd t106 x8_6)] from rfl) (kC.none _ _)))))))
                   intro v119 w30 ho31 hb hg_ hnew_
                   have HS0_:=uV hb hHeld.1
                   have HS1_:=uV hb hHeld.2.1
                   have HS2_:=uV hb hHeld.2.2.1
                   have HS3_:=uV hb hHeld.2.2.2
                   clear hg_ hnew_
                   (first|rw [← Ny118.out] at ho31|(simp only [Int.reduceToNat] at ho31;rw [← Ny118.out] at ho31))
                   have HO120:=aE (Kd.R_lower (Kd.R_new' ho31 (Kd.R_lt (bN HO_4))) (aT (aX HB)))
                   replace HO_4:=aE (Kd.R_elder' (bN HO_4) (Kd.R_base ho31) hb)
                   replace BK101:=aE (bB BK101 hb)
                   replace HB:=aE (aD (aX HB) hb)
                   clear hb ho31
                   refine hK.out _ _ ⟨HS0_,HS1_,HS2_,HS3_⟩ (fun hHeld=>?_)
                   clear hK K
                   refine gA ?_
                   refine bU ((0,18,2,524287)::[]) ?_
                   iterate 1 (first|refine jT HT_ ?_)
                   refine aU ?_
                   refine eN (cK HT_.out (by kernel_rfl)) ?_
                   try go_wp2
                   go_ret
                   exact ⟨_,bP,by (with_reducible repeat (first|apply kD|apply kE|apply gU));exact Kd.R_mono HO120.out (fun _ hk=>trivial),aX HB⟩
                  ·replace c26:=Bool.eq_false_iff.mpr c26
                   subst c26
                   rw [if_neg (show ¬ (false=true) by decide)] at H
                   have H':=aE H
                   clear H
                   try go_wp2
                   replace HO_4:=aE (gU HO_4.out)
                   replace BK101:=aE (aI BK101.out)
                   replace HB:=aE (jK HB.out)
                   obtain ⟨p109,q109,ad109,e109,hx109_0⟩:=jP (Kd.at_int (Kd.R_reads' HO_4.out).2.2 x5_3)
                   cases e109
                   obtain ⟨p110,q110,ad110,e110,hx110_0⟩:=jP (Kd.at_int (Kd.R_reads' HO_4.out).2.2 x6_4)
                   obtain rfl:ad109=ad110:=(by injection e110)
                   obtain ⟨p111,q111,ad111,e111,hx111_0⟩:=jP (Kd.at_int (Kd.R_reads' HO_4.out).2.2 x7_5)
                   obtain rfl:ad109=ad111:=(by injection e111)
                   obtain ⟨p112,q112,ad112,e112,hx112_0⟩:=jP (Kd.at_int (Kd.R_reads' HO_4.out).2.2 x8_6)
                   obtain rfl:ad109=ad112:=(by injection e112)
                   refine dA (n:=19) (S:=fun w'=>w'.cell? ⟨gb101,0,none⟩=some (.int .i64 a0_0)∧w'.cell? ⟨gb101,1,none⟩=some (.string a0_1)∧w'.cell? (ad109.add (x5_3).toNat)=some (.int .i64 (rd t106 x5_3))∧w'.cell? (ad109.add (x6_4).toNat)=some (.int .i64 (rd t106 x6_4))∧w'.cell? (ad109.add (x7_5).toNat)=some (.int .i64 (rd t106 x7_5))∧w'.cell? (ad109.add (x8_6).toNat)=some (.int .i64 (rd t106 x8_6))) (ds:=[]) (bm 19 0) (by kernel_rfl) rfl rfl ⟨aW BK101 0,aW BK101 1,hx109_0,hx110_0,hx111_0,hx112_0⟩ (fun hHeld=>?_);refine bO nG mS (fun HT_ HW_=>?_)
                   generalize wr.drew=w32 at HO_4 BK101 HB hx109_0 hx110_0 hx111_0 hx112_0 hHeld ⊢
                   refine bU ((0,1,54,2)::(0,2,55,6)::(0,3,56,14)::(0,4,57,30)::(0,6,59,94)::(0,7,60,222)::(0,8,61,478)::(0,10,63,1502)::(0,11,64,3550)::(0,12,65,7646)::(0,14,67,24030)::(0,15,68,56798)::(0,16,69,122334)::(2,0,53,122335)::(2,5,58,122367)::(2,9,62,122879)::(2,13,66,131071)::(2,17,70,262143)::[]) ?_
                   iterate 18 (first|refine jT HT_ ?_|refine pZ HT_ HW_ hHeld ?_)
                   refine aU ?_
                   refine dQ (i:=18) (N:=some 71) (bm 19 524287) rfl rfl (bJ HT_.out (by kernel_rfl)) (by decide) (fun K hK=>?_)
                   refine cN Tryz.func115 #[.agg #[.int .i64 a0_0,.string a0_1],.int .i64 x3_1,.int .i64 (rd t106 x5_3),.int .i64 (rd t106 x6_4),.int .i64 (rd t106 x7_5),.int .i64 (rd t106 x8_6)] ?_
                   with_reducible refine (oW k6 a0_0 a0_1 x3_1 (rd t106 x5_3) (rd t106 x6_4) (rd t106 x7_5) (rd t106 x8_6) false _ A25.out).mono ?_
                   rintro e w33 ⟨rfl,hb⟩
                   have HS2_:=uV hb hHeld.2.2.1
                   have HS3_:=uV hb hHeld.2.2.2.1
                   have HS4_:=uV hb hHeld.2.2.2.2.1
                   have HS5_:=uV hb hHeld.2.2.2.2.2
                   refine ⟨_,rfl,?_⟩
                   replace HO_4:=aE (Kd.R_below (bN HO_4) hb)
                   replace BK101:=aE (bB BK101 hb)
                   replace HB:=aE (aD (aX HB) hb)
                   (try clear hb)
                   (try clear hk)
                   refine hK.out _ _ ⟨aW BK101 0,aW BK101 1,HS2_,HS3_,HS4_,HS5_⟩ (fun hHeld=>?_)
                   clear hK K
                   refine gA ?_
                   refine eN (cK HT_.out (by kernel_rfl)) ?_
                   try go_wp2
                   go_roundg k6
                   case measure=>have:=HK1.out;have:=HJ2.out;have:=HK3.out;have:=HK4.out;have:=HK5.out;have:=HK6.out;omega
                   case rel=>exact ⟨(wrap64 (x8_6+1)),aH,H',⟨by have:=HK1.out;have:=HJ2.out;have:=HK3.out;have:=HK4.out;have:=HK5.out;have:=HK6.out;omega⟩,⟨bN HO_4⟩,⟨fO BK101⟩,⟨aX HB⟩⟩
                 ·have H':=aE H
                  clear H
                  go_wp2
                  go_roundg k6
                  case measure=>have:=HK1.out;have:=HJ2.out;have:=HK3.out;have:=HK4.out;have:=HK5.out;have:=HK6.out;omega
                  case rel=>exact ⟨(wrap64 (x7_5+1)),aH,H',⟨by have:=HK1.out;have:=HJ2.out;have:=HK3.out;have:=HK4.out;have:=HK5.out;have:=HK6.out;omega⟩,⟨bN HO_4⟩,⟨fO BK101⟩,⟨aX HB⟩⟩
              ·have H':=aE H
               clear H
               go_wp2
               go_roundg k5
               case measure=>have:=HK1.out;have:=HJ2.out;have:=HK3.out;have:=HK4.out;have:=HK5.out;omega
               case rel=>exact ⟨(wrap64 (x6_4+1)),aH,H',⟨by have:=HK1.out;have:=HJ2.out;have:=HK3.out;have:=HK4.out;have:=HK5.out;omega⟩,⟨bN HO_4⟩,⟨fO BK101⟩,⟨aX HB⟩⟩
           ·have H':=aE H
            clear H
            go_wp2
            go_roundg k4
            case measure=>have:=HK1.out;have:=HJ2.out;have:=HK3.out;have:=HK4.out;omega
            case rel=>exact ⟨(wrap64 (x5_3+1)),aH,H',⟨by have:=HK1.out;have:=HJ2.out;have:=HK3.out;have:=HK4.out;omega⟩,⟨bN HO_4⟩,⟨fO BK101⟩,⟨aX HB⟩⟩
        ·have H':=aE H
         clear H
         obtain ⟨Ao34,co34,eo34⟩:=Kd.R_slice HO_4.out
         subst eo34
         go_wp2
         go_roundg k3
         case measure=>have:=HK1.out;have:=HJ2.out;have:=HK3.out;omega
         case rel=>exact ⟨(wrap64 (x3_1+1)),aH,H',⟨by have:=HK1.out;have:=HJ2.out;have:=HK3.out;omega⟩,⟨fO BK101⟩,⟨aX HB⟩⟩
     ·replace c9:=Bool.eq_false_iff.mpr c9
      subst c9
      rw [if_neg (show ¬ (false=true) by decide)] at H
      obtain ⟨y103,hy103⟩:∃ y_:List Int,y_=(([]:List Int)):=⟨_,rfl⟩
      first|(with_reducible replace H:=oO hy103 H)|(with_reducible replace H:=oP hy103 H)|rw [← hy103] at H
      have Ny103:=aE hy103
      clear hy103
      obtain rfl:=Option.some.inj H
      go_wp2_with (first|((with_reducible refine aN (N:=90) rfl ?_);refine Kd.R_lit (Kd.int .i64) _ 3 ?hg (N:=90) ?hd (xs:=([]:List Int)) (inner:=[]) (ok:=fun _=>True) (okp:=fun _=>True) ?hr ?hp (fun _ hk=>hk) trivial (Below.refl _ _) (Nat.le_refl _) (by simp) ?_;(case hd=>rfl);(case hg=>rfl);(case hr=>first|(go_simp;done)|(go_simp;rfl));(case hp=>exact (kC.none _ _));intro v104 w35 ho36 hb hg_ hnew_;clear hg_ hnew_;(first|rw [← Ny103.out] at ho36|(simp only [Int.reduceToNat] at ho36;rw [← Ny103.out] at ho36));have HO105:=aE (Kd.R_lower ho36 (aT (aX HB)));replace BK101:=aE (bB BK101 hb);replace HB:=aE (aD (aX HB) hb);clear hb ho36))
      go_ret
      exact ⟨_,bP,bN HO105,aX HB⟩
/-! ### spec_IsMatroid: function 77 -/
def spec_IsMatroid.f (k:Nat) (a0_0:Int) (a0_1:ByteArray):Option (Bool):=(spec_AreSigns.f k a0_0 a0_1).bind fun t102=>(if t102=true then ((spec_FirstBreak.f k a0_0 a0_1).bind fun t103=>(some ((t103.length:Int)==0))) else (some false))
set_option maxHeartbeats 8000000 in
set_option maxRecDepth 100000 in
theorem nZ (k:Nat) (a0_0:Int) (a0_1:ByteArray) (r:Bool) (w:World) (h:spec_IsMatroid.f k a0_0 a0_1=some r) :
  Calls Tryz.prog 77 #[.agg #[.int .i64 a0_0,.string a0_1]] w fun e w'=>e=.returned (.bool r)∧Below w.heap.size w w':=by
 have hu41:=Tryz.underlying41
 have HB:=aE (Below.refl w.heap.size w)
 unfold spec_IsMatroid.f at h
 have H:=h
 clear h
 replace H:=eM H
 obtain ⟨t102,A2,H⟩:=H
 by_cases c3:t102=true
 ·subst c3
  rw [if_pos rfl] at H
  replace H:=eM H
  obtain ⟨t103,A4,H⟩:=H
  obtain rfl:=Option.some.inj H
  go_enter Tryz.func77,Tryz.ntmps77
  go_wp2_with (first|((with_reducible refine aN (N:=1) rfl ?_);(try (refine fS (by rfl) ?_;dsimp only));refine bV (N:=1) #[.int .i64 a0_0,.string a0_1] 41 ?_;intro gb101 hg w5 hbox hb;have BK101:=aE (hbox);have GW101:=aE ((dX HB hg));have GE101:=aE ((dX HB hg));replace HB:=aE (aD (aX HB) hb);clear hb hbox hg;have hcz6_0:=aW BK101 0;have hcz6_1:=aW BK101 1;have hfz6_0:=aA BK101.out 0;have hfz6_1:=aA BK101.out 1)|((with_reducible refine aJ (f:=101) rfl ?_);refine aV (some 4) Tryz.func101 #[.agg #[.int .i64 a0_0,.string a0_1]] ?_;(with_reducible refine (lZ k a0_0 a0_1 true _ A2.out).mono ?_);rintro e w7 ⟨rfl,hb⟩;refine ⟨_,rfl,?_⟩;replace BK101:=aE (bB BK101 hb);replace HB:=aE (aD (aX HB) hb);(try clear hb);have hcz8_0:=aW BK101 0;have hcz8_1:=aW BK101 1;have hfz8_0:=aA BK101.out 0;have hfz8_1:=aA BK101.out 1)|(go_at_call 102;(with_reducible refine (uO k a0_0 a0_1 t103 _ A4.out).mono ?_);rintro e w9 ⟨v104,rfl,ho0,hb⟩;have HO105:=aE (Kd.R_lower ho0 (aT (aX HB)));replace BK101:=aE (bB BK101 hb);replace HB:=aE (aD (aX HB) hb);(try clear hb);(try clear ho0);obtain ⟨Ao10,co10,eo10⟩:=Kd.R_slice HO105.out;subst eo10))
  go_ret
  exact ⟨bP,aX HB⟩
 ·replace c3:=Bool.eq_false_iff.mpr c3
  subst c3
  rw [if_neg (show ¬ (false=true) by decide)] at H
  obtain rfl:=Option.some.inj H
  go_enter Tryz.func77,Tryz.ntmps77
  go_wp2_with (first|((with_reducible refine aN (N:=1) rfl ?_);(try (refine fS (by rfl) ?_;dsimp only));refine bV (N:=1) #[.int .i64 a0_0,.string a0_1] 41 ?_;intro gb101 hg w11 hbox hb;have BK101:=aE (hbox);have GW101:=aE ((dX HB hg));have GE101:=aE ((dX HB hg));replace HB:=aE (aD (aX HB) hb);clear hb hbox hg;have hcz12_0:=aW BK101 0;have hcz12_1:=aW BK101 1;have hfz12_0:=aA BK101.out 0;have hfz12_1:=aA BK101.out 1)|((with_reducible refine aJ (f:=101) rfl ?_);refine aV (some 4) Tryz.func101 #[.agg #[.int .i64 a0_0,.string a0_1]] ?_;(with_reducible refine (lZ k a0_0 a0_1 false _ A2.out).mono ?_);rintro e w13 ⟨rfl,hb⟩;refine ⟨_,rfl,?_⟩;replace BK101:=aE (bB BK101 hb);replace HB:=aE (aD (aX HB) hb);(try clear hb)))
  go_ret
  exact ⟨bP,aX HB⟩
/-! ### spec_l4Circuit: function 103 -/
def spec_l4Circuit.f (k:Nat) (a0_0:Int) (a0_1:ByteArray) (a1:Int) (a2:Int) (a3:Int) (a4:Int):Option (ByteArray):=(spec_l3At.f k a0_0 a0_1 a2 a3 a4).bind fun t102=>((spec_l3At.f k a0_0 a0_1 a1 a3 a4).bind fun t103=>((spec_l3Byte.f (wrap64 ((wrap64 (-t102))*t103))).bind fun t104=>(if 1+t104.size≤9223372036854775807 then ((spec_l3At.f k a0_0 a0_1 a1 a2 a4).bind fun t105=>((spec_l3Byte.f (wrap64 (t102*t105))).bind fun t106=>(if ((⟨#[43]⟩:ByteArray)++t104).size+t106.size≤9223372036854775807 then ((spec_l3At.f k a0_0 a0_1 a1 a2 a3).bind fun t107=>((spec_l3Byte.f (wrap64 ((wrap64 (-t102))*t107))).bind fun t108=>(if (((⟨#[43]⟩:ByteArray)++t104)++t106).size+t108.size≤9223372036854775807 then (some ((((⟨#[43]⟩:ByteArray)++t104)++t106)++t108)) else (none)))) else (none)))) else (none))))
theorem spec_l4Circuit.mono:∀ a0 a1 a2 a3 a4 a5 k,LeO (spec_l4Circuit.f k a0 a1 a2 a3 a4 a5) (spec_l4Circuit.f (k+1) a0 a1 a2 a3 a4 a5):=by
 intro a0 a1 a2 a3 a4 a5 k
 unfold spec_l4Circuit.f
 repeat' (with_reducible first|exact spec_l3At.mono _ _ _ _ _ _|exact LeO.refl _|exact LeO.none _|refine jA ?_ ?_|refine LeO.bind ?_ (fun _=>?_))
def rF:Bool×List (List Nat×List Nat):=(true,[([],[]),([0],[0]),([],[]),([],[]),([],[]),([],[]),([2,3,4,5],[2,3,4,5]),([1,6],[1,6]),([7,6],[7]),([8],[8]),([],[]),([],[]),([],[]),([],[]),([],[]),([11,12,13,14,8],[11,12,13,14]),([10,15],[10,15]),([16,15],[16]),([9,17],[9,17]),([18,17,0,1,2,3,4,5,6,7,8,9,10,11,12,13,14,15,16,17,18],[18])])
def zD:List Nat:=[0,1,0,0,0,0,60,127,255,511,0,0,0,0,0,31231,65023,130559,262143,524287]
theorem wV:iQ .any (iS Tryz.f103 2)=rF:=by kernel_rfl
theorem vF:dM rF.2 zD=true:=by kernel_rfl
set_option maxHeartbeats 8000000 in
set_option maxRecDepth 100000 in
theorem lP (k:Nat) (a0_0:Int) (a0_1:ByteArray) (a1:Int) (a2:Int) (a3:Int) (a4:Int) (r:ByteArray) (w:World) (h:spec_l4Circuit.f k a0_0 a0_1 a1 a2 a3 a4=some r) :
  Calls Tryz.prog 103 #[.agg #[.int .i64 a0_0,.string a0_1],.int .i64 a1,.int .i64 a2,.int .i64 a3,.int .i64 a4] w fun e w'=>e=.returned (.string r)∧Below w.heap.size w w':=by
 have hu41:=Tryz.underlying41
 have HB:=aE (Below.refl w.heap.size w)
 unfold spec_l4Circuit.f at h
 have H:=h
 clear h
 replace H:=eM H
 obtain ⟨t102,A6,H⟩:=H
 replace H:=eM H
 obtain ⟨t103,A7,H⟩:=H
 replace H:=eM H
 obtain ⟨t104,A8,H⟩:=H
 obtain ⟨c9,H⟩:=gQ H
 have c9b0:=eq_true c9
 have c9b1:=decide_eq_true c9
 try have c9b2:(9223372036854775807<1+t104.size)=False:=eq_false (Nat.not_lt.2 c9)
 replace H:=eM H
 obtain ⟨t105,A10,H⟩:=H
 replace H:=eM H
 obtain ⟨t106,A11,H⟩:=H
 obtain ⟨c12,H⟩:=gQ H
 have c12b0:=eq_true c12
 have c12b1:=decide_eq_true c12
 try have c12b2:(9223372036854775807<((⟨#[43]⟩:ByteArray)++t104).size+t106.size)=False:=eq_false (Nat.not_lt.2 c12)
 have c12s2:(9223372036854775807<1+t104.size+t106.size)=False:=eq_false (Nat.not_lt.2 (by have h_:=c12;simp only [ByteArray.size_append] at h_;exact h_))
 replace H:=eM H
 obtain ⟨t107,A13,H⟩:=H
 replace H:=eM H
 obtain ⟨t108,A14,H⟩:=H
 obtain ⟨c15,H⟩:=gQ H
 have c15b0:=eq_true c15
 have c15b1:=decide_eq_true c15
 try have c15b2:(9223372036854775807<(((⟨#[43]⟩:ByteArray)++t104)++t106).size+t108.size)=False:=eq_false (Nat.not_lt.2 c15)
 have c15s2:(9223372036854775807<1+t104.size+t106.size+t108.size)=False:=eq_false (Nat.not_lt.2 (by have h_:=c15;simp only [ByteArray.size_append] at h_;exact h_))
 obtain rfl:=Option.some.inj H
 go_enter Tryz.func103,Tryz.ntmps103
 try go_wp2_with (first|((with_reducible refine aN (N:=5) rfl ?_);refine bV (N:=5) #[.int .i64 a0_0,.string a0_1] 41 ?_;intro gb101 hg w16 hbox hb;have BK101:=aE (hbox);have GW101:=aE ((dX HB hg));have GE101:=aE ((dX HB hg));replace HB:=aE (aD (aX HB) hb);clear hb hbox hg;have hcz17_0:=aW BK101 0;have hcz17_1:=aW BK101 1;have hfz17_0:=aA BK101.out 0;have hfz17_1:=aA BK101.out 1)|((with_reducible refine aJ (f:=100) rfl ?_);refine aV (some 17) Tryz.func100 #[.agg #[.int .i64 a0_0,.string a0_1],.int .i64 a2,.int .i64 a3,.int .i64 a4] ?_;(with_reducible refine (cU k a0_0 a0_1 a2 a3 a4 t102 _ A6.out).mono ?_);rintro e w18 ⟨rfl,hb⟩;refine ⟨_,rfl,?_⟩;replace BK101:=aE (bB BK101 hb);replace HB:=aE (aD (aX HB) hb);(try clear hb)))
 replace BK101:=aE (aI BK101.out)
 replace HB:=aE (jK HB.out)
 refine dA (n:=20) (S:=fun w'=>w'.cell? ⟨gb101,0,none⟩=some (.int .i64 a0_0)∧w'.cell? ⟨gb101,1,none⟩=some (.string a0_1)) (ds:=[]) (bm 20 0) (by kernel_rfl) rfl rfl ⟨aW BK101 0,aW BK101 1⟩ (fun hHeld=>?_);refine bO wV vF (fun HT_ HW_=>?_)
 generalize w18.drew=w19 at BK101 HB hHeld ⊢
 refine bU ((0,0,18,1)::(0,1,19,3)::(0,3,21,11)::(0,4,22,27)::(0,5,23,59)::(0,10,28,1083)::(0,12,30,5179)::(0,13,31,13371)::(0,14,32,29755)::(2,2,20,29759)::(2,11,29,31807)::[]) ?_
 iterate 11 (first|refine jT HT_ ?_|refine pZ HT_ HW_ hHeld ?_)
 refine aU ?_
 refine dQ (i:=6) (N:=some 24) (bm 20 31871) rfl rfl (bJ HT_.out (by kernel_rfl)) (by decide) (fun K hK=>?_)
 refine cN Tryz.func100 #[.agg #[.int .i64 a0_0,.string a0_1],.int .i64 a1,.int .i64 a3,.int .i64 a4] ?_
 with_reducible refine (cU k a0_0 a0_1 a1 a3 a4 t103 _ A7.out).mono ?_
 rintro e w20 ⟨rfl,hb⟩
 refine ⟨_,rfl,?_⟩
 replace BK101:=aE (bB BK101 hb)
 replace HB:=aE (aD (aX HB) hb)
 (try clear hb)
 refine hK.out _ _ ⟨aW BK101 0,aW BK101 1⟩ (fun hHeld=>?_)
 clear hK K
 refine gA ?_
 refine bU ((0,7,25,31999)::[]) ?_
 iterate 1 (first|refine jT HT_ ?_)
 refine aU ?_
 refine dQ (i:=8) (N:=some 26) (bm 20 32255) rfl rfl (bJ HT_.out (by kernel_rfl)) (by decide) (fun K hK=>?_)
 refine cN Tryz.func55 #[.int .i64 (wrap64 ((wrap64 (-t102))*t103))] ?_
 with_reducible refine (lI (wrap64 ((wrap64 (-t102))*t103)) t104 _ A8.out).mono ?_
 rintro e w' ⟨rfl,⟨nd,rfl⟩⟩
 refine ⟨_,rfl,?_⟩
 refine hK.out _ _ ⟨aW BK101 0,aW BK101 1⟩ (fun hHeld=>?_)
 clear hK K
 refine gA ?_
 refine bU ((0,9,27,32767)::[]) ?_
 iterate 1 (first|refine jT HT_ ?_)
 refine aU ?_
 refine dQ (i:=15) (N:=some 33) (bm 20 65535) rfl rfl (bJ HT_.out (by kernel_rfl)) (by decide) (fun K hK=>?_)
 refine cN Tryz.func100 #[.agg #[.int .i64 a0_0,.string a0_1],.int .i64 a1,.int .i64 a2,.int .i64 a4] ?_
 with_reducible refine (cU k a0_0 a0_1 a1 a2 a4 t105 _ A10.out).mono ?_
 rintro e w21 ⟨rfl,hb⟩
 refine ⟨_,rfl,?_⟩
 replace BK101:=aE (bB BK101 hb)
 replace HB:=aE (aD (aX HB) hb)
 (try clear hb)
 refine hK.out _ _ ⟨aW BK101 0,aW BK101 1⟩ (fun hHeld=>?_)
 clear hK K
 refine gA ?_
 refine bU ((0,16,34,131071)::[]) ?_
 iterate 1 (first|refine jT HT_ ?_)
 refine aU ?_
 refine dQ (i:=17) (N:=some 35) (bm 20 262143) rfl rfl (bJ HT_.out (by kernel_rfl)) (by decide) (fun K hK=>?_)
 refine cN Tryz.func55 #[.int .i64 (wrap64 (t102*t105))] ?_
 with_reducible refine (lI (wrap64 (t102*t105)) t106 _ A11.out).mono ?_
 rintro e w' ⟨rfl,⟨nd,rfl⟩⟩
 refine ⟨_,rfl,?_⟩
 refine hK.out _ _ ⟨aW BK101 0,aW BK101 1⟩ (fun hHeld=>?_)
 clear hK K
 refine gA ?_
 refine bU ((0,18,36,524287)::(0,19,12,1048575)::[]) ?_
 iterate 2 (first|refine jT HT_ ?_)
 refine aU ?_
 refine eN (cK HT_.out (by kernel_rfl)) ?_
 have hcz22_0:=aW BK101 0
 have hcz22_1:=aW BK101 1
 have hfz22_0:=aA BK101.out 0
 have hfz22_1:=aA BK101.out 1
 try go_wp2_with (first|((with_reducible refine aJ (f:=100) rfl ?_);refine aV (some 44) Tryz.func100 #[.agg #[.int .i64 a0_0,.string a0_1],.int .i64 a1,.int .i64 a2,.int .i64 a3] ?_;(with_reducible refine (cU k a0_0 a0_1 a1 a2 a3 t107 _ A13.out).mono ?_);rintro e w23 ⟨rfl,hb⟩;refine ⟨_,rfl,?_⟩;replace BK101:=aE (bB BK101 hb);replace HB:=aE (aD (aX HB) hb);(try clear hb))|((with_reducible refine aJ (f:=55) rfl ?_);refine aV (some 46) Tryz.func55 #[.int .i64 (wrap64 ((wrap64 (-t102))*t107))] ?_;(with_reducible refine (lI (wrap64 ((wrap64 (-t102))*t107)) t108 _ A14.out).mono ?_);rintro e w' ⟨rfl,⟨nd,rfl⟩⟩;refine ⟨_,rfl,?_⟩))
 go_ret
 exact ⟨bP,aX HB⟩
/-! ### spec_l4Acyclic: function 78 -/
mutual
def fZ:Nat→Int→Int→ByteArray→Option (Bool)
 | 0,_,_,_=>none
 | k+1,x3,x102000,x102001=>if x3<x102000 then (fF k x3 (wrap64 (x3+1)) x102000 x102001) else (some true)
def fF:Nat→Int→Int→Int→ByteArray→Option (Bool)
 | 0,_,_,_,_=>none
 | k+1,x3,x4,x102000,x102001=>if x4<x102000 then (fG k x3 x4 (wrap64 (x4+1)) x102000 x102001) else (fZ k (wrap64 (x3+1)) x102000 x102001)
def fG:Nat→Int→Int→Int→Int→ByteArray→Option (Bool)
 | 0,_,_,_,_,_=>none
 | k+1,x3,x4,x5,x102000,x102001=>if x5<x102000 then (fI k x3 x4 x5 (wrap64 (x5+1)) x102000 x102001) else (fF k x3 (wrap64 (x4+1)) x102000 x102001)
def fI:Nat→Int→Int→Int→Int→Int→ByteArray→Option (Bool)
 | 0,_,_,_,_,_,_=>none
 | k+1,x3,x4,x5,x6,x102000,x102001=>if x6<x102000 then ((spec_l4Circuit.f k x102000 x102001 x3 x4 x5 x6).bind fun t102=>(if t102.toList=([43,43,43,43]:List UInt8) then (some false) else (fI k x3 x4 x5 (wrap64 (x6+1)) x102000 x102001))) else (fG k x3 x4 (wrap64 (x5+1)) x102000 x102001)
end
def spec_l4Acyclic.f (k:Nat) (a0_0:Int) (a0_1:ByteArray):Option (Bool):=fZ k 0 a0_0 a0_1
set_option maxHeartbeats 8000000 in
set_option maxRecDepth 100000 in
theorem vG (k : Nat) (a0_0 : Int) (a0_1 : ByteArray) (r : Bool) (w : World) (h : spec_l4Acyclic.f k a0_0 a0_1 = some r) :
  Calls Tryz.prog 78 #[.agg #[.int .i64 a0_0,.string a0_1]] w fun e w'=>e=.returned (.bool r)∧Below w.heap.size w w':=by
 have hu41:=Tryz.underlying41
 have HB:=aE (Below.refl w.heap.size w)
 unfold spec_l4Acyclic.f at h
 have H:=h
 clear h
 have H':=aE H
 clear H
 go_enter Tryz.func78,Tryz.ntmps78
 go_wp2_with (first|((with_reducible refine aN (N:=1) rfl ?_);refine bV (N:=1) #[.int .i64 a0_0,.string a0_1] 41 ?_;intro gb101 hg w2 hbox hb;have BK101:=aE (hbox);have GW101:=aE ((dX HB hg));have GE101:=aE ((dX HB hg));replace HB:=aE (aD (aX HB) hb);clear hb hbox hg))
 go_loopg [3] k (fun kq v3 w'=>∃ (x3_1:Int),v3=.int .i64 x3_1∧Aside0 (fZ kq x3_1 a0_0 a0_1=some r)∧Aside0 (kq≤k)∧Aside0 (w'.heap[gb101]? = some (.cells #[.int .i64 a0_0,.string a0_1] 41 (0,0)))∧Aside0 (Below w.heap.size w w'))
 case atStart=>exact ⟨(0),aH,H',⟨Nat.le_refl _⟩,⟨fO BK101⟩,⟨aX HB⟩⟩
 case round =>
  clear H'
  obtain ⟨x3_1,rfl,HA,HK1,BK101,HB⟩:=hrel
  cases gk with
  | zero=>exact absurd HA.out (by simp [fZ])
  | succ k1 =>
   have H:=HA.out
   clear HA
   simp only [fZ] at H
   rcases eV H with ⟨c3b0,H⟩|⟨c3b0,H⟩
   ·have H' := aE H
    clear H
    have hcz4_0:=aW BK101 0
    have hcz4_1:=aW BK101 1
    have hfz4_0:=aA BK101.out 0
    have hfz4_1:=aA BK101.out 1
    go_wp2
    go_loopg [4] k1 (fun kq v4 w'=>∃ (x4_2:Int),v4=.int .i64 x4_2∧Aside0 (fF kq x3_1 x4_2 a0_0 a0_1=some r)∧Aside0 (kq≤k1)∧Aside0 (w'.heap[gb101]? = some (.cells #[.int .i64 a0_0,.string a0_1] 41 (0,0)))∧Aside0 (Below w.heap.size w w'))
    case atStart=>exact ⟨(wrap64 (x3_1+1)),aH,H',⟨Nat.le_refl _⟩,⟨fO BK101⟩,⟨aX HB⟩⟩
    case round =>
     clear H'
     try clear c3b0
     try clear hcz4_0
     try clear hcz4_1
     try clear hfz4_0
     try clear hfz4_1
     obtain ⟨x4_2,rfl,HA,HK2,BK101,HB⟩:=hrel
     cases gk with
     | zero=>exact absurd HA.out (by simp [fF])
     | succ k2 =>
      have H:=HA.out
      clear HA
      simp only [fF] at H
      rcases eV H with ⟨c5b0,H⟩|⟨c5b0,H⟩
      ·have H' := aE H
       clear H
       have hcz6_0:=aW BK101 0
       have hcz6_1:=aW BK101 1
       have hfz6_0:=aA BK101.out 0
       have hfz6_1:=aA BK101.out 1
       go_wp2
       go_loopg [5] k2 (fun kq v5 w'=>∃ (x5_3:Int),v5=.int .i64 x5_3∧Aside0 (fG kq x3_1 x4_2 x5_3 a0_0 a0_1=some r)∧Aside0 (kq≤k2)∧Aside0 (w'.heap[gb101]? = some (.cells #[.int .i64 a0_0,.string a0_1] 41 (0,0)))∧Aside0 (Below w.heap.size w w'))
       case atStart=>exact ⟨(wrap64 (x4_2+1)),aH,H',⟨Nat.le_refl _⟩,⟨fO BK101⟩,⟨aX HB⟩⟩
       case round =>
        clear H'
        try clear c3b0
        try clear c5b0
        try clear hcz4_0
        try clear hcz4_1
        try clear hcz6_0
        try clear hcz6_1
        try clear hfz4_0
        try clear hfz4_1
        try clear hfz6_0
        try clear hfz6_1
        obtain ⟨x5_3,rfl,HA,HK3,BK101,HB⟩:=hrel
        cases gk with
        | zero=>exact absurd HA.out (by simp [fG])
        | succ k3 =>
         have H:=HA.out
         clear HA
         simp only [fG] at H
         rcases eV H with ⟨c7b0,H⟩|⟨c7b0,H⟩
         ·have H':=aE H
          clear H
          have hcz8_0:=aW BK101 0
          have hcz8_1:=aW BK101 1
          have hfz8_0:=aA BK101.out 0
          have hfz8_1:=aA BK101.out 1
          go_wp2
          go_loopg [6] k3 (fun kq v6 w'=>∃ (x6_4:Int),v6=.int .i64 x6_4∧Aside0 (fI kq x3_1 x4_2 x5_3 x6_4 a0_0 a0_1=some r)∧Aside0 (kq≤k3)∧Aside0 (w'.heap[gb101]? = some (.cells #[.int .i64 a0_0,.string a0_1] 41 (0,0)))∧Aside0 (Below w.heap.size w w'))
          case atStart=>exact ⟨(wrap64 (x5_3+1)),aH,H',⟨Nat.le_refl _⟩,⟨fO BK101⟩,⟨aX HB⟩⟩
          case round =>
           clear H'
           try clear c3b0
           try clear c5b0
           try clear c7b0
           try clear hcz4_0
           try clear hcz4_1
           try clear hcz6_0
           try clear hcz6_1
           try clear hcz8_0
           try clear hcz8_1
           try clear hfz4_0
           try clear hfz4_1
           try clear hfz6_0
           try clear hfz6_1
           try clear hfz8_0
           try clear hfz8_1
           obtain ⟨x6_4,rfl,HA,HK4,BK101,HB⟩:=hrel
           cases gk with
           | zero=>exact absurd HA.out (by simp [fI])
           | succ k4 =>
            have H:=HA.out
            clear HA
            simp only [fI] at H
            rcases eV H with ⟨c9b0,H⟩|⟨c9b0,H⟩
            ·replace H:=DB H
             obtain ⟨t102,A100,H⟩:=H
             have A10:=aE A100
             clear A100
             rcases jE H with ⟨c11,H⟩|⟨c11,H⟩
             ·have c11b0:(t102.toList==([43,43,43,43]:List UInt8))=true:=beq_iff_eq.mpr c11
              have c11b1:(t102.toList != ([43,43,43,43]:List UInt8))=false:=bne_eq_false_iff_eq.mpr c11
              clear c11
              obtain rfl:=Option.some.inj H
              have hcz12_0:=aW BK101 0
              have hcz12_1:=aW BK101 1
              have hfz12_0:=aA BK101.out 0
              have hfz12_1:=aA BK101.out 1
              go_wp2_with (first|((with_reducible refine aJ (f:=103) rfl ?_);refine aV (some 42) Tryz.func103 #[.agg #[.int .i64 a0_0,.string a0_1],.int .i64 x3_1,.int .i64 x4_2,.int .i64 x5_3,.int .i64 x6_4] ?_;(with_reducible refine (lP k4 a0_0 a0_1 x3_1 x4_2 x5_3 x6_4 t102 _ A10.out).mono ?_);rintro e w13 ⟨rfl,hb⟩;refine ⟨_,rfl,?_⟩;replace BK101:=aE (bB BK101 hb);replace HB:=aE (aD (aX HB) hb);(try clear hb)))
              go_ret
              exact ⟨bP,aX HB⟩
             ·have c11b0:(t102.toList==([43,43,43,43]:List UInt8))=false:=beq_eq_false_iff_ne.mpr c11
              have c11b1:(t102.toList != ([43,43,43,43]:List UInt8))=true:=bne_iff_ne.mpr c11
              have H':=aE H
              clear H
              have hcz14_0:=aW BK101 0
              have hcz14_1:=aW BK101 1
              have hfz14_0:=aA BK101.out 0
              have hfz14_1:=aA BK101.out 1
              go_wp2_with (first|((with_reducible refine aJ (f:=103) rfl ?_);refine aV (some 42) Tryz.func103 #[.agg #[.int .i64 a0_0,.string a0_1],.int .i64 x3_1,.int .i64 x4_2,.int .i64 x5_3,.int .i64 x6_4] ?_;(with_reducible refine (lP k4 a0_0 a0_1 x3_1 x4_2 x5_3 x6_4 t102 _ A10.out).mono ?_);rintro e w15 ⟨rfl,hb⟩;refine ⟨_,rfl,?_⟩;replace BK101:=aE (bB BK101 hb);replace HB:=aE (aD (aX HB) hb);(try clear hb)))
              go_roundg k4
              case measure=>have:=HK1.out;have:=HK2.out;have:=HK3.out;have:=HK4.out;omega
              case rel=>exact ⟨(wrap64 (x6_4+1)),aH,H',⟨by have:=HK1.out;have:=HK2.out;have:=HK3.out;have:=HK4.out;omega⟩,⟨fO BK101⟩,⟨aX HB⟩⟩
            ·have H':=aE H
             clear H
             have hcz16_0:=aW BK101 0
             have hcz16_1:=aW BK101 1
             have hfz16_0:=aA BK101.out 0
             have hfz16_1:=aA BK101.out 1
             go_wp2
             go_roundg k4
             case measure=>have:=HK1.out;have:=HK2.out;have:=HK3.out;have:=HK4.out;omega
             case rel=>exact ⟨(wrap64 (x5_3+1)),aH,H',⟨by have:=HK1.out;have:=HK2.out;have:=HK3.out;have:=HK4.out;omega⟩,⟨fO BK101⟩,⟨aX HB⟩⟩
         ·have H':=aE H
          clear H
          have hcz17_0:=aW BK101 0
          have hcz17_1:=aW BK101 1
          have hfz17_0:=aA BK101.out 0
          have hfz17_1:=aA BK101.out 1
          go_wp2
          go_roundg k3
          case measure=>have:=HK1.out;have:=HK2.out;have:=HK3.out;omega
          case rel=>exact ⟨(wrap64 (x4_2+1)),aH,H',⟨by have:=HK1.out;have:=HK2.out;have:=HK3.out;omega⟩,⟨fO BK101⟩,⟨aX HB⟩⟩
      ·have H':=aE H
       clear H
       have hcz18_0:=aW BK101 0
       have hcz18_1:=aW BK101 1
       have hfz18_0:=aA BK101.out 0
       have hfz18_1:=aA BK101.out 1
       go_wp2
       go_roundg k2
       case measure=>have:=HK1.out;have:=HK2.out;omega
       case rel=>exact ⟨(wrap64 (x3_1+1)),aH,H',⟨by have:=HK1.out;have:=HK2.out;omega⟩,⟨fO BK101⟩,⟨aX HB⟩⟩
   ·obtain rfl:=Option.some.inj H
    have hcz19_0:=aW BK101 0
    have hcz19_1:=aW BK101 1
    have hfz19_0:=aA BK101.out 0
    have hfz19_1:=aA BK101.out 1
    go_wp2
    go_ret
    exact ⟨bP,aX HB⟩
/-! ### spec_IsAcyclic: function 56 -/
def spec_IsAcyclic.f (k:Nat) (a0_0:Int) (a0_1:ByteArray):Option (Bool):=(spec_IsMatroid.f k a0_0 a0_1).bind fun t102=>(if t102=true then ((spec_l4Acyclic.f k a0_0 a0_1).bind fun t103=>(some t103)) else (some false))
set_option maxHeartbeats 8000000 in
set_option maxRecDepth 100000 in
theorem gE (k:Nat) (a0_0:Int) (a0_1:ByteArray) (r:Bool) (w:World) (h:spec_IsAcyclic.f k a0_0 a0_1=some r) :
  Calls Tryz.prog 56 #[.agg #[.int .i64 a0_0,.string a0_1]] w fun e w'=>e=.returned (.bool r)∧Below w.heap.size w w':=by
 have hu41:=Tryz.underlying41
 have HB:=aE (Below.refl w.heap.size w)
 unfold spec_IsAcyclic.f at h
 have H:=h
 clear h
 replace H:=eM H
 obtain ⟨t102,A2,H⟩:=H
 by_cases c3:t102=true
 ·subst c3
  rw [if_pos rfl] at H
  replace H:=eM H
  obtain ⟨t103,A4,H⟩:=H
  obtain rfl:=Option.some.inj H
  go_enter Tryz.func56,Tryz.ntmps56
  go_wp2_with (first|((with_reducible refine aN (N:=1) rfl ?_);refine bV (N:=1) #[.int .i64 a0_0,.string a0_1] 41 ?_;intro gb101 hg w5 hbox hb;have BK101:=aE (hbox);have GW101:=aE ((dX HB hg));have GE101:=aE ((dX HB hg));replace HB:=aE (aD (aX HB) hb);clear hb hbox hg;have hcz6_0:=aW BK101 0;have hcz6_1:=aW BK101 1;have hfz6_0:=aA BK101.out 0;have hfz6_1:=aA BK101.out 1)|((with_reducible refine aJ (f:=77) rfl ?_);refine aV (some 4) Tryz.func77 #[.agg #[.int .i64 a0_0,.string a0_1]] ?_;(with_reducible refine (nZ k a0_0 a0_1 true _ A2.out).mono ?_);rintro e w7 ⟨rfl,hb⟩;refine ⟨_,rfl,?_⟩;replace BK101:=aE (bB BK101 hb);replace HB:=aE (aD (aX HB) hb);(try clear hb);have hcz8_0:=aW BK101 0;have hcz8_1:=aW BK101 1;have hfz8_0:=aA BK101.out 0;have hfz8_1:=aA BK101.out 1)|(go_at_call 78;(with_reducible refine (vG k a0_0 a0_1 t103 _ A4.out).mono ?_);rintro e w9 ⟨rfl,hb⟩;replace BK101:=aE (bB BK101 hb);replace HB:=aE (aD (aX HB) hb);(try clear hb)))
  go_ret
  exact ⟨bP,aX HB⟩
 ·replace c3:=Bool.eq_false_iff.mpr c3
  subst c3
  rw [if_neg (show ¬ (false=true) by decide)] at H
  obtain rfl:=Option.some.inj H
  go_enter Tryz.func56,Tryz.ntmps56
  go_wp2_with (first|((with_reducible refine aN (N:=1) rfl ?_);refine bV (N:=1) #[.int .i64 a0_0,.string a0_1] 41 ?_;intro gb101 hg w10 hbox hb;have BK101:=aE (hbox);have GW101:=aE ((dX HB hg));have GE101:=aE ((dX HB hg));replace HB:=aE (aD (aX HB) hb);clear hb hbox hg;have hcz11_0:=aW BK101 0;have hcz11_1:=aW BK101 1;have hfz11_0:=aA BK101.out 0;have hfz11_1:=aA BK101.out 1)|((with_reducible refine aJ (f:=77) rfl ?_);refine aV (some 4) Tryz.func77 #[.agg #[.int .i64 a0_0,.string a0_1]] ?_;(with_reducible refine (nZ k a0_0 a0_1 false _ A2.out).mono ?_);rintro e w12 ⟨rfl,hb⟩;refine ⟨_,rfl,?_⟩;replace BK101:=aE (bB BK101 hb);replace HB:=aE (aD (aX HB) hb);(try clear hb)))
  go_ret
  exact ⟨bP,aX HB⟩
/-! ### spec_l6Has: function 75 -/
def spec_l6Has.f (a0:Int) (a1:Int):Option (Bool):=if 0≤(IntKind.u64.wrap (a1)) then (some ((Go.bits .and .i64 (RF .i64 a0 (IntKind.u64.wrap (a1))) 1)==1)) else (none)
set_option maxHeartbeats 8000000 in
set_option maxRecDepth 100000 in
theorem bM (a0:Int) (a1:Int) (r:Bool) (w:World) (h:spec_l6Has.f a0 a1=some r) :
  Calls Tryz.prog 75 #[.int .i64 a0,.int .i64 a1] w fun e w'=>e=.returned (.bool r)∧gH w w':=by
 unfold spec_l6Has.f at h
 have H:=h
 clear h
 obtain ⟨ji3,hji3⟩:∃ j_:Int,(IntKind.u64.wrap (a1))=j_:=⟨_,rfl⟩
 replace H:(if 0≤(ji3) then (some ((Go.bits .and .i64 (RF .i64 a0 (ji3)) 1)==1)) else (none))=some r:=by first|(rw [hji3] at H;exact H)|(simp only [hji3] at H ⊢;exact H)
 obtain ⟨c4,H⟩:=gQ H
 have c4b0:=eq_true c4
 have c4b1:=decide_eq_true c4
 clear c4
 obtain ⟨ji5,hji5⟩:∃ j_:Int,(RF .i64 a0 (ji3))=j_:=⟨_,rfl⟩
 replace H:(some ((Go.bits .and .i64 (ji5) 1)==1))=some r:=by first|(rw [hji5] at H;exact H)|(simp only [hji5] at H ⊢;exact H)
 have hji5_:(a0 / 2 ^ min (ji3).toNat 64)=ji5:=hji5
 have hji5z:(ji3)≤64→(a0 / 2 ^ (ji3).toNat)=ji5:=AO hji5
 obtain rfl:=Option.some.inj H
 go_enter Tryz.func75,Tryz.ntmps75
 go_wp2
 go_ret
 exact ⟨by first|rfl|(simp;done)|(simp only [← hji3,← hji5] <;> (first|rfl|simp))|(simp [*];done),by repeat (first|exact gH.refl _|apply bF)⟩
/-! ### spec_l1Max: function 70 -/
def spec_l1Max.f (a0:Int) (a1:Int):Option (Int):=if a0 > a1 then (some a0) else (some a1)
set_option maxHeartbeats 8000000 in
set_option maxRecDepth 100000 in
theorem kP (a0:Int) (a1:Int) (r:Int) (w:World) (h:spec_l1Max.f a0 a1=some r) :
  Calls Tryz.prog 70 #[.int .i64 a0,.int .i64 a1] w fun e w'=>e=.returned (.int .i64 r)∧gH w w':=by
 unfold spec_l1Max.f at h
 have H:=h
 clear h
 rcases eV H with ⟨c3b0,H⟩|⟨c3b0,H⟩
 ·obtain rfl:=Option.some.inj H
  go_enter Tryz.func70,Tryz.ntmps70
  go_wp2
  go_ret
  exact ⟨aH,by repeat (first|exact gH.refl _|apply bF)⟩
 ·obtain rfl:=Option.some.inj H
  go_enter Tryz.func70,Tryz.ntmps70
  go_wp2
  go_ret
  exact ⟨aH,by repeat (first|exact gH.refl _|apply bF)⟩
/-! ### spec_l5Split: function 104 -/
def dB:Nat→List Int→ByteArray→Int→Int→Int→Option (Int×Int)
 | 0,_,_,_,_,_=>none
 | k+1,x1,x6,x7,x8,x9=>if x9<4 then (if 0≤x9 then (if x9<(x6.size:Int) then (if (bt x6 x9)=43 then (if x9<(x1.length:Int) then (if 0≤(IntKind.u64.wrap (rd x1 x9)) then (dB k x1 x6 (wrap64 (x7+(kS .i64 1 (IntKind.u64.wrap (rd x1 x9))))) x8 (wrap64 (x9+1))) else (none)) else (none)) else (if x9<(x1.length:Int) then (if 0≤(IntKind.u64.wrap (rd x1 x9)) then (dB k x1 x6 x7 (wrap64 (x8+(kS .i64 1 (IntKind.u64.wrap (rd x1 x9))))) (wrap64 (x9+1))) else (none)) else (none))) else (none)) else (none)) else (some (x7,x8))
def spec_l5Split.f (k:Nat) (a0_0:Int) (a0_1:ByteArray) (l1:List Int):Option (Int×Int):=if 0<(l1.length:Int) then (if 1<(l1.length:Int) then (if 2<(l1.length:Int) then (if 3<(l1.length:Int) then ((spec_l4Circuit.f k a0_0 a0_1 (rd l1 0) (rd l1 1) (rd l1 2) (rd l1 3)).bind fun t106=>(dB k l1 t106 0 0 0)) else (none)) else (none)) else (none)) else (none)
theorem oZ:∀ k,(∀ y0 y1 y2 y3 y4,LeO (dB k y0 y1 y2 y3 y4) (dB (k+1) y0 y1 y2 y3 y4))
 | 0=>fun _ _ _ _ _ r h=>by simp [dB] at h
 | k+1=>by
  have ih0:=oZ k
  (intros;unfold dB;repeat' (with_reducible first|exact ih0 _ _ _ _ _|exact spec_l4Circuit.mono _ _ _ _ _ _ _|exact LeO.refl _|exact LeO.none _|refine jA ?_ ?_|refine LeO.bind ?_ (fun _=>?_)))
def uA:Bool×List (List Nat×List Nat):=(true,[([],[]),([],[]),([1],[1]),([2],[2]),([],[]),([4],[4]),([5],[5]),([],[]),([7],[7]),([8],[8]),([],[]),([10],[10]),([11],[11]),([0,3,6,9,12],[0,3,6,9,12]),([13,13,0,1,2,3,4,5,6,7,8,9,10,11,12,13],[13])])
def CP:List Nat:=[0,0,2,6,0,16,48,0,128,384,0,1024,3072,8191,16383]
theorem zE:iQ .any (iS Tryz.f104 1)=uA:=by kernel_rfl
theorem yA:dM uA.2 CP=true:=by kernel_rfl
set_option maxHeartbeats 8000000 in
set_option maxRecDepth 100000 in
theorem yB (k:Nat) (a0_0:Int) (a0_1:ByteArray) (A1:Option Addr) (c1:Nat) (l1:List Int) (r1:Int) (r2:Int) (w:World) (hr1:Kd.C (Kd.int .i64) w A1 l1.length l1) (hc1:l1.length≤c1) (h:spec_l5Split.f k a0_0 a0_1 l1=some (r1,r2)) :
  Calls Tryz.prog 104 #[.agg #[.int .i64 a0_0,.string a0_1],.slice A1 l1.length c1] w fun e w'=>e=.returned (.tuple #[.int .i64 r1,.int .i64 r2])∧Below w.heap.size w w':=by
 have hu41:=Tryz.underlying41
 have HR1:=aE hr1
 have HC1:=aE hc1
 clear hr1 hc1
 have HB:=aE (Below.refl w.heap.size w)
 unfold spec_l5Split.f at h
 have H:=h
 clear h
 obtain ⟨c3,H⟩:=gQ H
 have c3b0:=decide_eq_true c3
 have c3b1:decide (0<l1.length)=true:=decide_eq_true (by omega)
 clear c3
 obtain ⟨c4,H⟩:=gQ H
 have c4b0:=decide_eq_true c4
 have c4b1:decide (1<l1.length)=true:=decide_eq_true (by omega)
 clear c4
 obtain ⟨c5,H⟩:=gQ H
 have c5b0:=decide_eq_true c5
 have c5b1:decide (2<l1.length)=true:=decide_eq_true (by omega)
 clear c5
 obtain ⟨c6,H⟩:=gQ H
 have c6b0:=decide_eq_true c6
 have c6b1:decide (3<l1.length)=true:=decide_eq_true (by omega)
 clear c6
 replace H:=DB H
 obtain ⟨t106,A70,H⟩:=H
 replace H:(dB k l1 t106 0 0 0)=some (r1,r2):=H
 have A7:=aE A70
 clear A70
 have H':=aE H
 clear H
 go_enter Tryz.func104,Tryz.ntmps104
 try go_wp2_with (first|((with_reducible refine aN (N:=2) rfl ?_);refine bV (N:=2) #[.int .i64 a0_0,.string a0_1] 41 ?_;intro gb101 hg w8 hbox hb;have BK101:=aE (hbox);have GW101:=aE ((dX HB hg));have GE101:=aE ((dX HB hg));replace HB:=aE (aD (aX HB) hb);clear hb hbox hg))
 replace BK101:=aE (aI BK101.out)
 replace HB:=aE (jK HB.out)
 have p102:0≤(0:Int):=(by omega)
 have q102:0<(l1.length:Int):=bI
 obtain ⟨ad102,e102,hx102_0⟩:=Kd.at_int HR1.out 0 p102 q102
 have hw102_0:=hx102_0
 (try rw [show ((0:Int)).toNat=0 from rfl] at hw102_0)
 (try rw [show 0*1=0 from rfl] at hw102_0)
 (try rw [Addr.add_zero'] at hw102_0)
 cases e102
 have qi102:(0<l1.length)=True:=eq_true (by omega)
 (try rw [show ((0:Int)).toNat=0 from rfl] at hx102_0)
 (try rw [Addr.add_zero'] at hx102_0)
 replace hx102_0:=aY HB hx102_0
 replace p102:=eq_true p102
 replace q102:=eq_true q102
 have p103:0≤(1:Int):=(by omega)
 have q103:1<(l1.length:Int):=bI
 obtain ⟨ad103,e103,hx103_0⟩:=Kd.at_int HR1.out 1 p103 q103
 have hw103_0:=hx103_0
 (try rw [show ((1:Int)).toNat=1 from rfl] at hw103_0)
 (try rw [show 1*1=1 from rfl] at hw103_0)
 (try simp only [Nat.reduceMul,Nat.reduceEqDiff,Go.Addr.add,↓reduceIte] at hw103_0)
 obtain rfl:ad102=ad103:=(by injection e103)
 (try simp only [show (1:Int).toNat=1 from rfl,Nat.reduceMul,Nat.reduceEqDiff,Go.Addr.add,↓reduceIte] at hx103_0)
 have qi103:(1<l1.length)=True:=eq_true (by omega)
 (try rw [show ((1:Int)).toNat=1 from rfl] at hx103_0)
 replace hx103_0:=aY HB hx103_0
 replace p103:=eq_true p103
 replace q103:=eq_true q103
 have p104:0≤(2:Int):=(by omega)
 have q104:2<(l1.length:Int):=bI
 obtain ⟨ad104,e104,hx104_0⟩:=Kd.at_int HR1.out 2 p104 q104
 have hw104_0:=hx104_0
 (try rw [show ((2:Int)).toNat=2 from rfl] at hw104_0)
 (try rw [show 2*1=2 from rfl] at hw104_0)
 (try simp only [Nat.reduceMul,Nat.reduceEqDiff,Go.Addr.add,↓reduceIte] at hw104_0)
 obtain rfl:ad102=ad104:=(by injection e104)
 (try simp only [show (2:Int).toNat=2 from rfl,Nat.reduceMul,Nat.reduceEqDiff,Go.Addr.add,↓reduceIte] at hx104_0)
 have qi104:(2<l1.length)=True:=eq_true (by omega)
 (try rw [show ((2:Int)).toNat=2 from rfl] at hx104_0)
 replace hx104_0:=aY HB hx104_0
 replace p104:=eq_true p104
 replace q104:=eq_true q104
 have p105:0≤(3:Int):=(by omega)
 have q105:3<(l1.length:Int):=bI
 obtain ⟨ad105,e105,hx105_0⟩:=Kd.at_int HR1.out 3 p105 q105
 have hw105_0:=hx105_0
 (try rw [show ((3:Int)).toNat=3 from rfl] at hw105_0)
 (try rw [show 3*1=3 from rfl] at hw105_0)
 (try simp only [Nat.reduceMul,Nat.reduceEqDiff,Go.Addr.add,↓reduceIte] at hw105_0)
 obtain rfl:ad102=ad105:=(by injection e105)
 (try simp only [show (3:Int).toNat=3 from rfl,Nat.reduceMul,Nat.reduceEqDiff,Go.Addr.add,↓reduceIte] at hx105_0)
 have qi105:(3<l1.length)=True:=eq_true (by omega)
 (try rw [show ((3:Int)).toNat=3 from rfl] at hx105_0)
 replace hx105_0:=aY HB hx105_0
 replace p105:=eq_true p105
 replace q105:=eq_true q105
 refine dA (n:=15) (S:=fun w'=>w'.cell? ⟨gb101,0,none⟩=some (.int .i64 a0_0)∧w'.cell? ⟨gb101,1,none⟩=some (.string a0_1)∧w'.cell? ad102=some (.int .i64 (rd l1 0))∧w'.cell? ⟨ad102.block,ad102.off+1,none⟩=some (.int .i64 (rd l1 1))∧w'.cell? ⟨ad102.block,ad102.off+2,none⟩=some (.int .i64 (rd l1 2))∧w'.cell? ⟨ad102.block,ad102.off+3,none⟩=some (.int .i64 (rd l1 3))) (ds:=[]) (bm 15 0) (by kernel_rfl) rfl rfl ⟨aW BK101 0,aW BK101 1,(aY HB hw102_0),(aY HB hw103_0),(aY HB hw104_0),(aY HB hw105_0)⟩ (fun hHeld=>?_);refine bO zE yA (fun HT_ HW_=>?_)
 generalize w8.drew=w9 at BK101 HB hx102_0 hx103_0 hx104_0 hx105_0 hHeld ⊢
 refine bU ((0,1,11,2)::(0,2,12,6)::(0,4,14,22)::(0,5,15,54)::(0,7,17,182)::(0,8,18,438)::(0,10,20,1462)::(0,11,21,3510)::(2,0,10,3511)::(2,3,13,3519)::(2,6,16,3583)::(2,9,19,4095)::(2,12,22,8191)::[]) ?_
 iterate 13 (first|refine jT HT_ ?_|refine pZ HT_ HW_ hHeld ?_)
 refine aU ?_
 refine dQ (i:=13) (N:=some 23) (bm 15 16383) rfl rfl (bJ HT_.out (by kernel_rfl)) (by decide) (fun K hK=>?_)
 refine cN Tryz.func103 #[.agg #[.int .i64 a0_0,.string a0_1],.int .i64 (rd l1 0),.int .i64 (rd l1 1),.int .i64 (rd l1 2),.int .i64 (rd l1 3)] ?_
 with_reducible refine (lP k a0_0 a0_1 (rd l1 0) (rd l1 1) (rd l1 2) (rd l1 3) t106 _ A7.out).mono ?_
 rintro e w10 ⟨rfl,hb⟩
 refine ⟨_,rfl,?_⟩
 replace BK101:=aE (bB BK101 hb)
 replace HB:=aE (aD (aX HB) hb)
 (try clear hb)
 refine hK.out _ _ ⟨aW BK101 0,aW BK101 1,(aY HB hw102_0),(aY HB hw103_0),(aY HB hw104_0),(aY HB hw105_0)⟩ (fun hHeld=>?_)
 clear hK K
 refine gA ?_
 refine bU ((0,14,6,32767)::[]) ?_
 iterate 1 (first|refine jT HT_ ?_)
 refine aU ?_
 refine eN (cK HT_.out (by kernel_rfl)) ?_
 try go_wp2
 go_loopg [7,8,9] k (fun kq v7 v8 v9 w'=>∃ (x7_1:Int) (x8_1:Int) (x9_1:Int),v7=.int .i64 x7_1∧v8=.int .i64 x8_1∧v9=.int .i64 x9_1∧Aside0 (dB kq l1 t106 x7_1 x8_1 x9_1=some (r1,r2))∧Aside0 (kq≤k)∧Aside0 (w'.heap[gb101]? = some (.cells #[.int .i64 a0_0,.string a0_1] 41 (0,0)))∧Aside0 (Below w.heap.size w w'))
 case atStart=>exact ⟨(0),(0),(0),aH,aH,aH,H',⟨Nat.le_refl _⟩,⟨fO BK101⟩,⟨aX HB⟩⟩
 case round =>
  clear H'
  try clear c1
  try clear c3
  try clear c3b0
  try clear c3b1
  try clear c4
  try clear c4b0
  try clear c4b1
  try clear c5
  try clear c5b0
  try clear c5b1
  try clear c6
  try clear c6b0
  try clear c6b1
  try clear hx102_0
  try clear hx103_0
  try clear hx104_0
  try clear hx105_0
  try clear p102
  try clear p103
  try clear p104
  try clear p105
  try clear q102
  try clear q103
  try clear q104
  try clear q105
  obtain ⟨x7_1,x8_1,x9_1,rfl,rfl,rfl,HA,HK1,BK101,HB⟩:=hrel
  cases gk with
  | zero=>exact absurd HA.out (by simp [dB])
  | succ k1 =>
   have H:=HA.out
   clear HA
   simp only [dB] at H
   rcases eV H with ⟨c11b0,H⟩|⟨c11b0,H⟩
   ·obtain ⟨c12b0,H⟩:=cV H
    obtain ⟨c13b0,H⟩:=cV H
    rcases jE H with ⟨c15,H⟩|⟨c15,H⟩
    ·have c15b0:((bt t106 x9_1)==43)=true:=beq_iff_eq.mpr c15
     have c15b1:((bt t106 x9_1) != 43)=false:=bne_eq_false_iff_eq.mpr c15
     clear c15
     obtain ⟨c16b0,H⟩:=cV H
     obtain ⟨ji17,hji17⟩:∃ j_:Int,(IntKind.u64.wrap (rd l1 x9_1))=j_:=⟨_,rfl⟩
     replace H:(if 0≤(ji17) then (dB k1 l1 t106 (wrap64 (x7_1+(kS .i64 1 (ji17)))) x8_1 (wrap64 (x9_1+1))) else (none))=some (r1,r2):=by first|(rw [hji17] at H;exact H)|(simp only [hji17] at H ⊢;exact H)
     obtain ⟨c18,H⟩:=gQ H
     have c18b0:=eq_true c18
     have c18b1:=decide_eq_true c18
     clear c18
     obtain ⟨ji19,hji19⟩:∃ j_:Int,(kS .i64 1 (ji17))=j_:=⟨_,rfl⟩
     replace H:(dB k1 l1 t106 (wrap64 (x7_1+(ji19))) x8_1 (wrap64 (x9_1+1)))=some (r1,r2):=by first|(rw [hji19] at H;exact H)|(simp only [hji19] at H ⊢;exact H)
     have hji19_:(IntKind.i64.wrap (1*2 ^ min (ji17).toNat 64))=ji19:=hji19
     have hji19z:(ji17)≤64→(IntKind.i64.wrap (1*2 ^ (ji17).toNat))=ji19:=jC hji19
     have hji19u:(IntKind.i64.wrap (2 ^ min (ji17).toNat 64))=ji19:=by have h_:=hji19_;rw [Int.one_mul] at h_;exact h_
     have hji19v:(ji17)≤64→(IntKind.i64.wrap (2 ^ (ji17).toNat))=ji19:=fun hle_=>by have h_:=hji19z hle_;rw [Int.one_mul] at h_;exact h_
     have hji19y:(wrap64 (1*2 ^ min (ji17).toNat 64))=ji19:=(cC _).symm.trans hji19_
     have hji19x:(ji17)≤64→(wrap64 (1*2 ^ (ji17).toNat))=ji19:=fun h_=>(cC _).symm.trans (hji19z h_)
     have H':=aE H
     clear H
     have p14:0≤(x9_1:Int):=bI
     have q14:x9_1<(t106.size:Int):=bI
     have hx14:=lK t106 x9_1
     replace p14:=eq_true p14
     replace q14:=eq_true q14
     have p107:0≤(x9_1:Int):=bI
     have q107:x9_1<(l1.length:Int):=bI
     obtain ⟨ad107,e107,hx107_0⟩:=Kd.at_int HR1.out x9_1 p107 q107
     obtain rfl:ad102=ad107:=(by injection e107)
     replace hx107_0:=aY HB hx107_0
     replace p107:=eq_true p107
     replace q107:=eq_true q107
     go_wp2
     go_roundg k1
     case measure=>have:=HK1.out;omega
     case rel=>exact ⟨(wrap64 (x7_1+(ji19))),(x8_1),(wrap64 (x9_1+1)),(by first|rfl|(simp;done)|(simp only [← hji19] <;> (first|rfl|simp))|(simp [*];done)),aH,aH,H',⟨by have:=HK1.out;omega⟩,⟨fO BK101⟩,⟨aX HB⟩⟩
    ·have c15b0:((bt t106 x9_1)==43)=false:=beq_eq_false_iff_ne.mpr c15
     have c15b1:((bt t106 x9_1) != 43)=true:=bne_iff_ne.mpr c15
     obtain ⟨c20b0,H⟩:=cV H
     obtain ⟨ji21,hji21⟩:∃ j_:Int,(IntKind.u64.wrap (rd l1 x9_1))=j_:=⟨_,rfl⟩
     replace H:(if 0≤(ji21) then (dB k1 l1 t106 x7_1 (wrap64 (x8_1+(kS .i64 1 (ji21)))) (wrap64 (x9_1+1))) else (none))=some (r1,r2):=by first|(rw [hji21] at H;exact H)|(simp only [hji21] at H ⊢;exact H)
     obtain ⟨c22,H⟩:=gQ H
     have c22b0:=eq_true c22
     have c22b1:=decide_eq_true c22
     clear c22
     obtain ⟨ji23,hji23⟩:∃ j_:Int,(kS .i64 1 (ji21))=j_:=⟨_,rfl⟩
     replace H:(dB k1 l1 t106 x7_1 (wrap64 (x8_1+(ji23))) (wrap64 (x9_1+1)))=some (r1,r2):=by first|(rw [hji23] at H;exact H)|(simp only [hji23] at H ⊢;exact H)
     have hji23_:(IntKind.i64.wrap (1*2 ^ min (ji21).toNat 64))=ji23:=hji23
     have hji23z:(ji21)≤64→(IntKind.i64.wrap (1*2 ^ (ji21).toNat))=ji23:=jC hji23
     have hji23u:(IntKind.i64.wrap (2 ^ min (ji21).toNat 64))=ji23:=by have h_:=hji23_;rw [Int.one_mul] at h_;exact h_
     have hji23v:(ji21)≤64→(IntKind.i64.wrap (2 ^ (ji21).toNat))=ji23:=fun hle_=>by have h_:=hji23z hle_;rw [Int.one_mul] at h_;exact h_
     have hji23y:(wrap64 (1*2 ^ min (ji21).toNat 64))=ji23:=(cC _).symm.trans hji23_
     have hji23x:(ji21)≤64→(wrap64 (1*2 ^ (ji21).toNat))=ji23:=fun h_=>(cC _).symm.trans (hji23z h_)
     have H':=aE H
     clear H
     have p14:0≤(x9_1:Int):=bI
     have q14:x9_1<(t106.size:Int):=bI
     have hx14:=lK t106 x9_1
     replace p14:=eq_true p14
     replace q14:=eq_true q14
     have p108:0≤(x9_1:Int):=bI
     have q108:x9_1<(l1.length:Int):=bI
     obtain ⟨ad108,e108,hx108_0⟩:=Kd.at_int HR1.out x9_1 p108 q108
     obtain rfl:ad102=ad108:=(by injection e108)
     replace hx108_0:=aY HB hx108_0
     replace p108:=eq_true p108
     replace q108:=eq_true q108
     go_wp2
     go_roundg k1
     case measure=>have:=HK1.out;omega
     case rel=>exact ⟨(x7_1),(wrap64 (x8_1+(ji23))),(wrap64 (x9_1+1)),aH,(by first|rfl|(simp;done)|(simp only [← hji23] <;> (first|rfl|simp))|(simp [*];done)),aH,H',⟨by have:=HK1.out;omega⟩,⟨fO BK101⟩,⟨aX HB⟩⟩
   ·simp only [Option.some.injEq,Prod.mk.injEq] at H
    obtain ⟨rfl,rfl⟩:=H
    go_wp2
    go_ret2
    exact ⟨bP,aX HB⟩
/-! ### spec_l5Only: function 105 -/
def gF:Nat→Int→Int→Option (Int)
 | 0,_,_=>none
 | k+1,x0,x3=>if x3<7 then (if 0≤(IntKind.u64.wrap (x3)) then (if x0=(kS .i64 1 (IntKind.u64.wrap (x3))) then (some x3) else (gF k x0 (wrap64 (x3+1)))) else (none)) else (some (-1))
def spec_l5Only.f (k:Nat) (a0:Int):Option (Int):=gF k a0 0
theorem qL:∀ k,(∀ y0 y1,LeO (gF k y0 y1) (gF (k+1) y0 y1))
 | 0=>fun _ _ r h=>by simp [gF] at h
 | k+1=>by
  have ih0:=qL k
  (intros;unfold gF;repeat' (with_reducible first|exact ih0 _ _|exact LeO.refl _|exact LeO.none _|refine jA ?_ ?_|refine LeO.bind ?_ (fun _=>?_)))
theorem spec_l5Only.mono:∀ a0 k,LeO (spec_l5Only.f k a0) (spec_l5Only.f (k+1) a0):=by
 intro a0 k
 have ih0:=qL k
 unfold spec_l5Only.f
 repeat' (with_reducible first|exact ih0 _ _|exact LeO.refl _|exact LeO.none _|refine jA ?_ ?_|refine LeO.bind ?_ (fun _=>?_))
set_option maxHeartbeats 8000000 in
set_option maxRecDepth 100000 in
theorem rG (k:Nat) (a0:Int) (r:Int) (w:World) (h:spec_l5Only.f k a0=some r) :
  Calls Tryz.prog 105 #[.int .i64 a0] w fun e w'=>e=.returned (.int .i64 r)∧gH w w':=by
 unfold spec_l5Only.f at h
 have H:=h
 clear h
 have H':=aE H
 clear H
 go_enter Tryz.func105,Tryz.ntmps105
 go_wp2
 go_loopg [3] k (fun kq v3 w'=>∃ (x3_1:Int),v3=.int .i64 x3_1∧Aside0 (gF kq a0 x3_1=some r)∧Aside0 (kq≤k)∧gH w w')
 case atStart=>exact ⟨(0),aH,H',⟨Nat.le_refl _⟩,by repeat (first|exact gH.refl _|apply bF)⟩
 case round =>
  clear H'
  obtain ⟨x3_1,rfl,HA,HK1,⟨m1,rfl⟩⟩:=hrel
  cases gk with
  | zero=>exact absurd HA.out (by simp [gF])
  | succ k1 =>
   have H:=HA.out
   clear HA
   simp only [gF] at H
   rcases eV H with ⟨c2b0,H⟩|⟨c2b0,H⟩
   ·obtain ⟨ji3,hji3⟩:∃ j_:Int,(IntKind.u64.wrap (x3_1))=j_:=⟨_,rfl⟩
    replace H:(if 0≤(ji3) then (if a0=(kS .i64 1 (ji3)) then (some x3_1) else (gF k1 a0 (wrap64 (x3_1+1)))) else (none))=some r:=by first|(rw [hji3] at H;exact H)|(simp only [hji3] at H ⊢;exact H)
    obtain ⟨c4,H⟩:=gQ H
    have c4b0:=eq_true c4
    have c4b1:=decide_eq_true c4
    clear c4
    obtain ⟨ji5,hji5⟩:∃ j_:Int,(kS .i64 1 (ji3))=j_:=⟨_,rfl⟩
    replace H:(if a0=(ji5) then (some x3_1) else (gF k1 a0 (wrap64 (x3_1+1))))=some r:=by first|(rw [hji5] at H;exact H)|(simp only [hji5] at H ⊢;exact H)
    have hji5_:(IntKind.i64.wrap (1*2 ^ min (ji3).toNat 64))=ji5:=hji5
    have hji5z:(ji3)≤64→(IntKind.i64.wrap (1*2 ^ (ji3).toNat))=ji5:=jC hji5
    have hji5u:(IntKind.i64.wrap (2 ^ min (ji3).toNat 64))=ji5:=by have h_:=hji5_;rw [Int.one_mul] at h_;exact h_
    have hji5v:(ji3)≤64→(IntKind.i64.wrap (2 ^ (ji3).toNat))=ji5:=fun hle_=>by have h_:=hji5z hle_;rw [Int.one_mul] at h_;exact h_
    have hji5y:(wrap64 (1*2 ^ min (ji3).toNat 64))=ji5:=(cC _).symm.trans hji5_
    have hji5x:(ji3)≤64→(wrap64 (1*2 ^ (ji3).toNat))=ji5:=fun h_=>(cC _).symm.trans (hji5z h_)
    rcases jE H with ⟨c6,H⟩|⟨c6,H⟩
    ·have c6b0:(a0==(ji5))=true:=beq_iff_eq.mpr c6
     have c6b1:(a0 != (ji5))=false:=bne_eq_false_iff_eq.mpr c6
     clear c6
     obtain rfl:=Option.some.inj H
     go_wp2
     go_ret
     exact ⟨by first|rfl|(simp;done)|(simp only [← hji3,← hji5] <;> (first|rfl|simp))|(simp [*];done),by repeat (first|exact gH.refl _|apply bF)⟩
    ·have c6b0:(a0==(ji5))=false:=beq_eq_false_iff_ne.mpr c6
     have c6b1:(a0 != (ji5))=true:=bne_iff_ne.mpr c6
     have H':=aE H
     clear H
     go_wp2
     go_roundg k1
     case measure=>have:=HK1.out;omega
     case rel=>exact ⟨(wrap64 (x3_1+1)),aH,H',⟨by have:=HK1.out;omega⟩,by repeat (first|exact gH.refl _|apply bF)⟩
   ·obtain rfl:=Option.some.inj H
    go_wp2
    go_ret
    exact ⟨aH,by repeat (first|exact gH.refl _|apply bF)⟩
/-! ### spec_l5Inner: function 79 -/
def spec_l5Inner.f (k:Nat) (a0_0:Int) (a0_1:ByteArray) (l1:List Int):Option (Int):=(spec_l5Split.f k a0_0 a0_1 l1).bind fun bt102=>((spec_l5Only.f k bt102.1).bind fun t104=>((spec_l5Only.f k bt102.2).bind fun t105=>((spec_l1Max.f t104 t105).bind fun t106=>(some t106))))
set_option maxHeartbeats 8000000 in
set_option maxRecDepth 100000 in
theorem qM (k:Nat) (a0_0:Int) (a0_1:ByteArray) (A1:Option Addr) (c1:Nat) (l1:List Int) (r:Int) (w:World) (hr1:Kd.C (Kd.int .i64) w A1 l1.length l1) (hc1:l1.length≤c1) (h:spec_l5Inner.f k a0_0 a0_1 l1=some r) :
  Calls Tryz.prog 79 #[.agg #[.int .i64 a0_0,.string a0_1],.slice A1 l1.length c1] w fun e w'=>e=.returned (.int .i64 r)∧Below w.heap.size w w':=by
 have hu41:=Tryz.underlying41
 have HR1:=aE hr1
 have HC1:=aE hc1
 clear hr1 hc1
 have HB:=aE (Below.refl w.heap.size w)
 unfold spec_l5Inner.f at h
 have H:=h
 clear h
 replace H:=eM H
 obtain ⟨⟨t102,t103⟩,A3,H⟩:=H
 try dsimp only at H
 replace H:=eM H
 obtain ⟨t104,A4,H⟩:=H
 replace H:=eM H
 obtain ⟨t105,A5,H⟩:=H
 replace H:=eM H
 obtain ⟨t106,A6,H⟩:=H
 obtain rfl:=Option.some.inj H
 go_enter Tryz.func79,Tryz.ntmps79
 go_wp2_with (first|((with_reducible refine aN (N:=2) rfl ?_);refine bV (N:=2) #[.int .i64 a0_0,.string a0_1] 41 ?_;intro gb101 hg w7 hbox hb;have BK101:=aE (hbox);have GW101:=aE ((dX HB hg));have GE101:=aE ((dX HB hg));replace HB:=aE (aD (aX HB) hb);clear hb hbox hg;have hcz8_0:=aW BK101 0;have hcz8_1:=aW BK101 1;have hfz8_0:=aA BK101.out 0;have hfz8_1:=aA BK101.out 1)|((with_reducible refine aJ (f:=104) rfl ?_);refine aV (some 10) Tryz.func104 #[.agg #[.int .i64 a0_0,.string a0_1],.slice A1 l1.length c1] ?_;(with_reducible refine (yB k a0_0 a0_1 _ _ l1 t102 t103 _ ?side1 ?side2 A3.out).mono ?_);(case side1=>exact kJ (Kd.C_below HR1.out HB.out));(case side2=>exact HC1.out);rintro e w9 ⟨rfl,hb⟩;refine ⟨_,rfl,?_⟩;replace BK101:=aE (bB BK101 hb);replace HB:=aE (aD (aX HB) hb);(try clear hb))|((with_reducible refine aJ (f:=105) rfl ?_);refine aV (some 14) Tryz.func105 #[.int .i64 t102] ?_;(with_reducible refine (rG k t102 t104 _ A4.out).mono ?_);rintro e w' ⟨rfl,⟨nd,rfl⟩⟩;refine ⟨_,rfl,?_⟩)|((with_reducible refine aJ (f:=105) rfl ?_);refine aV (some 16) Tryz.func105 #[.int .i64 t103] ?_;(with_reducible refine (rG k t103 t105 _ A5.out).mono ?_);rintro e w' ⟨rfl,⟨nd,rfl⟩⟩;refine ⟨_,rfl,?_⟩)|((with_reducible refine aJ (f:=70) rfl ?_);refine aV (some 17) Tryz.func70 #[.int .i64 t104,.int .i64 t105] ?_;(with_reducible refine (kP t104 t105 t106 _ A6.out).mono ?_);rintro e w' ⟨rfl,⟨nd,rfl⟩⟩;refine ⟨_,rfl,?_⟩))
 go_ret
 exact ⟨bP,aX HB⟩
/-! ### spec_l6In: function 57 -/
mutual
def jQ:Nat→Int→Int→Int→Int→ByteArray→Option (Bool)
 | 0,_,_,_,_,_=>none
 | k+1,x1,x2,x7,x102000,x102001=>if x7<x102000 then (jG k x1 x2 x7 (wrap64 (x7+1)) x102000 x102001) else (some false)
def jG:Nat→Int→Int→Int→Int→Int→ByteArray→Option (Bool)
 | 0,_,_,_,_,_,_=>none
 | k+1,x1,x2,x7,x8,x102000,x102001=>if x8<x102000 then (eA k x1 x2 x7 x8 (wrap64 (x8+1)) x102000 x102001) else (jQ k x1 x2 (wrap64 (x7+1)) x102000 x102001)
def eA:Nat→Int→Int→Int→Int→Int→Int→ByteArray→Option (Bool)
 | 0,_,_,_,_,_,_,_=>none
 | k+1,x1,x2,x7,x8,x9,x102000,x102001=>if x9<x102000 then (if x2=x7 then (eA k x1 x2 x7 x8 (wrap64 (x9+1)) x102000 x102001) else (if x2=x8 then (eA k x1 x2 x7 x8 (wrap64 (x9+1)) x102000 x102001) else (if x2=x9 then (eA k x1 x2 x7 x8 (wrap64 (x9+1)) x102000 x102001) else ((spec_l6Has.f x1 x7).bind fun t102=>(if t102=true then ((spec_l6Has.f x1 x8).bind fun t103=>(if t103=true then ((spec_l6Has.f x1 x9).bind fun t104=>(if t104=true then ((spec_l5Inner.f k x102000 x102001 (([x2,x7,x8,x9]:List Int))).bind fun t108=>(if t108=x2 then (some true) else (eA k x1 x2 x7 x8 (wrap64 (x9+1)) x102000 x102001))) else (eA k x1 x2 x7 x8 (wrap64 (x9+1)) x102000 x102001))) else (eA k x1 x2 x7 x8 (wrap64 (x9+1)) x102000 x102001))) else (eA k x1 x2 x7 x8 (wrap64 (x9+1)) x102000 x102001)))))) else (jG k x1 x2 x7 (wrap64 (x8+1)) x102000 x102001)
end
def spec_l6In.f (k:Nat) (a0_0:Int) (a0_1:ByteArray) (a1:Int) (a2:Int):Option (Bool):=jQ k a1 a2 0 a0_0 a0_1
set_option maxHeartbeats 8000000 in
set_option maxRecDepth 100000 in
theorem oJ (k : Nat) (a0_0 : Int) (a0_1 : ByteArray) (a1 : Int) (a2 : Int) (r : Bool) (w : World) (h : spec_l6In.f k a0_0 a0_1 a1 a2 = some r) :
  Calls Tryz.prog 57 #[.agg #[.int .i64 a0_0,.string a0_1],.int .i64 a1,.int .i64 a2] w fun e w'=>e=.returned (.bool r)∧Below w.heap.size w w':=by
 have hu41:=Tryz.underlying41
 have HB:=aE (Below.refl w.heap.size w)
 unfold spec_l6In.f at h
 have H:=h
 clear h
 have H':=aE H
 clear H
 go_enter Tryz.func57,Tryz.ntmps57
 go_wp2_with (first|((with_reducible refine aN (N:=3) rfl ?_);(try (refine fS (by rfl) ?_;dsimp only));refine bV (N:=3) #[.int .i64 a0_0,.string a0_1] 41 ?_;intro gb101 hg w4 hbox hb;have BK101:=aE (hbox);have GW101:=aE ((dX HB hg));have GE101:=aE ((dX HB hg));replace HB:=aE (aD (aX HB) hb);clear hb hbox hg))
 go_loopg [7] k (fun kq v7 w'=>∃ (x7_1:Int),v7=.int .i64 x7_1∧Aside0 (jQ kq a1 a2 x7_1 a0_0 a0_1=some r)∧Aside0 (kq≤k)∧Aside0 (w'.heap[gb101]? = some (.cells #[.int .i64 a0_0,.string a0_1] 41 (0,0)))∧Aside0 (Below w.heap.size w w'))
 case atStart=>exact ⟨(0),aH,H',⟨Nat.le_refl _⟩,⟨fO BK101⟩,⟨aX HB⟩⟩
 case round =>
  clear H'
  obtain ⟨x7_1,rfl,HA,HK1,BK101,HB⟩:=hrel
  cases gk with
  | zero=>exact absurd HA.out (by simp [jQ])
  | succ k1 =>
   have H:=HA.out
   clear HA
   simp only [jQ] at H
   rcases eV H with ⟨c5b0,H⟩|⟨c5b0,H⟩
   ·have H' := aE H
    clear H
    have hcz6_0:=aW BK101 0
    have hcz6_1:=aW BK101 1
    have hfz6_0:=aA BK101.out 0
    have hfz6_1:=aA BK101.out 1
    go_wp2
    go_loopg [8] k1 (fun kq v8 w'=>∃ (x8_2:Int),v8=.int .i64 x8_2∧Aside0 (jG kq a1 a2 x7_1 x8_2 a0_0 a0_1=some r)∧Aside0 (kq≤k1)∧Aside0 (w'.heap[gb101]? = some (.cells #[.int .i64 a0_0,.string a0_1] 41 (0,0)))∧Aside0 (Below w.heap.size w w'))
    case atStart=>exact ⟨(wrap64 (x7_1+1)),aH,H',⟨Nat.le_refl _⟩,⟨fO BK101⟩,⟨aX HB⟩⟩
    case round =>
     clear H'
     try clear c5b0
     try clear hcz6_0
     try clear hcz6_1
     try clear hfz6_0
     try clear hfz6_1
     obtain ⟨x8_2,rfl,HA,HK2,BK101,HB⟩:=hrel
     cases gk with
     | zero=>exact absurd HA.out (by simp [jG])
     | succ k2 =>
      have H:=HA.out
      clear HA
      simp only [jG] at H
      rcases eV H with ⟨c7b0,H⟩|⟨c7b0,H⟩
      ·have H' := aE H
       clear H
       have hcz8_0:=aW BK101 0
       have hcz8_1:=aW BK101 1
       have hfz8_0:=aA BK101.out 0
       have hfz8_1:=aA BK101.out 1
       go_wp2
       go_loopg [9] k2 (fun kq v9 w'=>∃ (x9_3:Int),v9=.int .i64 x9_3∧Aside0 (eA kq a1 a2 x7_1 x8_2 x9_3 a0_0 a0_1=some r)∧Aside0 (kq≤k2)∧Aside0 (w'.heap[gb101]? = some (.cells #[.int .i64 a0_0,.string a0_1] 41 (0,0)))∧Aside0 (Below w.heap.size w w'))
       case atStart=>exact ⟨(wrap64 (x8_2+1)),aH,H',⟨Nat.le_refl _⟩,⟨fO BK101⟩,⟨aX HB⟩⟩
       case round =>
        clear H'
        try clear c5b0
        try clear c7b0
        try clear hcz6_0
        try clear hcz6_1
        try clear hcz8_0
        try clear hcz8_1
        try clear hfz6_0
        try clear hfz6_1
        try clear hfz8_0
        try clear hfz8_1
        obtain ⟨x9_3,rfl,HA,HK3,BK101,HB⟩:=hrel
        cases gk with
        | zero=>exact absurd HA.out (by simp [eA])
        | succ k3 =>
         have H:=HA.out
         clear HA
         simp only [eA] at H
         rcases eV H with ⟨c9b0,H⟩|⟨c9b0,H⟩
         ·rcases jE H with ⟨c10, H⟩ | ⟨c10, H⟩
          ·have c10b0:(a2==x7_1)=true:=beq_iff_eq.mpr c10
           have c10b1:(a2 != x7_1)=false:=bne_eq_false_iff_eq.mpr c10
           clear c10
           have H':=aE H
           clear H
           have hcz11_0:=aW BK101 0
           have hcz11_1:=aW BK101 1
           have hfz11_0:=aA BK101.out 0
           have hfz11_1:=aA BK101.out 1
           go_wp2
           go_roundg k3
           case measure=>have:=HK1.out;have:=HK2.out;have:=HK3.out;omega
           case rel=>exact ⟨(wrap64 (x9_3+1)),aH,H',⟨by have:=HK1.out;have:=HK2.out;have:=HK3.out;omega⟩,⟨fO BK101⟩,⟨aX HB⟩⟩
          ·have c10b0 : (a2 == x7_1) = false := beq_eq_false_iff_ne.mpr c10
           have c10b1:(a2 != x7_1)=true:=bne_iff_ne.mpr c10
           rcases jE H with ⟨c12,H⟩|⟨c12,H⟩
           ·have c12b0:(a2==x8_2)=true:=beq_iff_eq.mpr c12
            have c12b1:(a2 != x8_2)=false:=bne_eq_false_iff_eq.mpr c12
            clear c12
            have H':=aE H
            clear H
            have hcz13_0:=aW BK101 0
            have hcz13_1:=aW BK101 1
            have hfz13_0:=aA BK101.out 0
            have hfz13_1:=aA BK101.out 1
            go_wp2
            go_roundg k3
            case measure=>have:=HK1.out;have:=HK2.out;have:=HK3.out;omega
            case rel=>exact ⟨(wrap64 (x9_3+1)),aH,H',⟨by have:=HK1.out;have:=HK2.out;have:=HK3.out;omega⟩,⟨fO BK101⟩,⟨aX HB⟩⟩
           ·have c12b0 : (a2 == x8_2) = false := beq_eq_false_iff_ne.mpr c12
            have c12b1:(a2 != x8_2)=true:=bne_iff_ne.mpr c12
            rcases jE H with ⟨c14,H⟩|⟨c14,H⟩
            ·have c14b0:(a2==x9_3)=true:=beq_iff_eq.mpr c14
             have c14b1:(a2 != x9_3)=false:=bne_eq_false_iff_eq.mpr c14
             clear c14
             have H':=aE H
             clear H
             have hcz15_0:=aW BK101 0
             have hcz15_1:=aW BK101 1
             have hfz15_0:=aA BK101.out 0
             have hfz15_1:=aA BK101.out 1
             go_wp2
             go_roundg k3
             case measure=>have:=HK1.out;have:=HK2.out;have:=HK3.out;omega
             case rel=>exact ⟨(wrap64 (x9_3+1)),aH,H',⟨by have:=HK1.out;have:=HK2.out;have:=HK3.out;omega⟩,⟨fO BK101⟩,⟨aX HB⟩⟩
            ·have c14b0:(a2==x9_3)=false:=beq_eq_false_iff_ne.mpr c14
             have c14b1:(a2 != x9_3)=true:=bne_iff_ne.mpr c14
             replace H:=eM H
             obtain ⟨t102,A16,H⟩:=H
             by_cases c17:t102=true
             ·subst c17
              rw [if_pos rfl] at H
              replace H:=eM H
              obtain ⟨t103,A18,H⟩:=H
              by_cases c19:t103=true
              ·subst c19
               rw [if_pos rfl] at H
               replace H:=eM H
               obtain ⟨t104,A20,H⟩:=H
               by_cases c21:t104=true
               ·subst c21
                rw [if_pos rfl] at H
                obtain ⟨y105,hy105⟩:∃ y_:List Int,y_=(([a2,x7_1,x8_2,x9_3]:List Int)):=⟨_,rfl⟩
                first|(with_reducible replace H:=oO hy105 H)|(with_reducible replace H:=oP hy105 H)|rw [← hy105] at H
                have Ny105:=aE hy105
                clear hy105
                replace H:=eM H
                obtain ⟨t108,A22,H⟩:=H
                rcases jE H with ⟨c23,H⟩|⟨c23,H⟩
                ·have c23b0:(t108==a2)=true:=beq_iff_eq.mpr c23
                 have c23b1:(t108 != a2)=false:=bne_eq_false_iff_eq.mpr c23
                 clear c23
                 obtain rfl:=Option.some.inj H
                 have hcz24_0:=aW BK101 0
                 have hcz24_1:=aW BK101 1
                 have hfz24_0:=aA BK101.out 0
                 have hfz24_1:=aA BK101.out 1
                 go_wp2_with (first|(go_at_call 75;(with_reducible refine (bM a1 x7_1 true _ A16.out).mono ?_);rintro e w' ⟨rfl,⟨nd,rfl⟩⟩)|(go_at_call 75;(with_reducible refine (bM a1 x8_2 true _ A18.out).mono ?_);rintro e w' ⟨rfl,⟨nd,rfl⟩⟩)|(go_at_call 75;(with_reducible refine (bM a1 x9_3 true _ A20.out).mono ?_);rintro e w' ⟨rfl,⟨nd,rfl⟩⟩)|((with_reducible refine aN (N:=66) rfl ?_);(try (refine fS (by rfl) ?_;dsimp only));refine Kd.R_lit (Kd.int .i64) _ 3 ?hg (N:=66) ?hd (xs:=([a2,x7_1,x8_2,x9_3]:List Int)) (inner:=[.int .i64 a2,.int .i64 x7_1,.int .i64 x8_2,.int .i64 x9_3]) (ok:=fun _=>True) (okp:=fun _=>True) ?hr ?hp (fun _ hk=>hk) trivial (Below.refl _ _) (Nat.le_refl _) (by simp) ?_;(case hd=>rfl);(case hg=>rfl);(case hr=>first|(go_simp;done)|(go_simp;rfl));(case hp=>exact (dG (show Kd.M (Kd.int .i64) _ _ _ a2 [.int .i64 a2] from rfl) (dG (show Kd.M (Kd.int .i64) _ _ _ x7_1 [.int .i64 x7_1] from rfl) (dG (show Kd.M (Kd.int .i64) _ _ _ x8_2 [.int .i64 x8_2] from rfl) (dG (show Kd.M (Kd.int .i64) _ _ _ x9_3 [.int .i64 x9_3] from rfl) (kC.none _ _))))));intro v106 w25 ho26 hb hg_ hnew_;clear hg_ hnew_;(first|rw [← Ny105.out] at ho26|(simp only [Int.reduceToNat] at ho26;rw [← Ny105.out] at ho26));have HO107:=aE (Kd.R_lower ho26 (aT (aX HB)));replace BK101:=aE (bB BK101 hb);replace HB:=aE (aD (aX HB) hb);clear hb ho26;obtain ⟨Ao27,co27,eo27⟩:=Kd.R_slice HO107.out;subst eo27)|(go_at_call 79;(with_reducible refine (qM k3 a0_0 a0_1 _ _ y105 t108 _ ?side1 ?side2 A22.out).mono ?_);(case side1=>exact kJ (Kd.R_reads' HO107.out).2.2);(case side2=>exact (Kd.R_reads' HO107.out).2.1);rintro e w28 ⟨rfl,hb⟩;replace HO107:=aE (Kd.R_below (bN HO107) hb);replace BK101:=aE (bB BK101 hb);replace HB:=aE (aD (aX HB) hb);(try clear hb);(try clear hk)))
                 go_ret
                 exact ⟨bP,aX HB⟩
                ·have c23b0:(t108==a2)=false:=beq_eq_false_iff_ne.mpr c23
                 have c23b1:(t108 != a2)=true:=bne_iff_ne.mpr c23
                 have H':=aE H
                 clear H
                 have hcz29_0:=aW BK101 0
                 have hcz29_1:=aW BK101 1
                 have hfz29_0:=aA BK101.out 0
                 have hfz29_1:=aA BK101.out 1
                 go_wp2_with (first|(go_at_call 75;(with_reducible refine (bM a1 x7_1 true _ A16.out).mono ?_);rintro e w' ⟨rfl,⟨nd,rfl⟩⟩)|(go_at_call 75;(with_reducible refine (bM a1 x8_2 true _ A18.out).mono ?_);rintro e w' ⟨rfl,⟨nd,rfl⟩⟩)|(go_at_call 75;(with_reducible refine (bM a1 x9_3 true _ A20.out).mono ?_);rintro e w' ⟨rfl,⟨nd,rfl⟩⟩)|((with_reducible refine aN (N:=66) rfl ?_);(try (refine fS (by rfl) ?_;dsimp only));refine Kd.R_lit (Kd.int .i64) _ 3 ?hg (N:=66) ?hd (xs:=([a2,x7_1,x8_2,x9_3]:List Int)) (inner:=[.int .i64 a2,.int .i64 x7_1,.int .i64 x8_2,.int .i64 x9_3]) (ok:=fun _=>True) (okp:=fun _=>True) ?hr ?hp (fun _ hk=>hk) trivial (Below.refl _ _) (Nat.le_refl _) (by simp) ?_;(case hd=>rfl);(case hg=>rfl);(case hr=>first|(go_simp;done)|(go_simp;rfl));(case hp=>exact (dG (show Kd.M (Kd.int .i64) _ _ _ a2 [.int .i64 a2] from rfl) (dG (show Kd.M (Kd.int .i64) _ _ _ x7_1 [.int .i64 x7_1] from rfl) (dG (show Kd.M (Kd.int .i64) _ _ _ x8_2 [.int .i64 x8_2] from rfl) (dG (show Kd.M (Kd.int .i64) _ _ _ x9_3 [.int .i64 x9_3] from rfl) (kC.none _ _))))));intro v106 w30 ho31 hb hg_ hnew_;clear hg_ hnew_;(first|rw [← Ny105.out] at ho31|(simp only [Int.reduceToNat] at ho31;rw [← Ny105.out] at ho31));have HO107:=aE (Kd.R_lower ho31 (aT (aX HB)));replace BK101:=aE (bB BK101 hb);replace HB:=aE (aD (aX HB) hb);clear hb ho31;obtain ⟨Ao32,co32,eo32⟩:=Kd.R_slice HO107.out;subst eo32)|(go_at_call 79;(with_reducible refine (qM k3 a0_0 a0_1 _ _ y105 t108 _ ?side1 ?side2 A22.out).mono ?_);(case side1=>exact kJ (Kd.R_reads' HO107.out).2.2);(case side2=>exact (Kd.R_reads' HO107.out).2.1);rintro e w33 ⟨rfl,hb⟩;replace HO107:=aE (Kd.R_below (bN HO107) hb);replace BK101:=aE (bB BK101 hb);replace HB:=aE (aD (aX HB) hb);(try clear hb);(try clear hk)))
                 go_roundg k3
                 case measure=>have:=HK1.out;have:=HK2.out;have:=HK3.out;omega
                 case rel=>exact ⟨(wrap64 (x9_3+1)),aH,H',⟨by have:=HK1.out;have:=HK2.out;have:=HK3.out;omega⟩,⟨fO BK101⟩,⟨aX HB⟩⟩
               ·replace c21:=Bool.eq_false_iff.mpr c21
                subst c21
                rw [if_neg (show ¬ (false=true) by decide)] at H
                have H':=aE H
                clear H
                have hcz34_0:=aW BK101 0
                have hcz34_1:=aW BK101 1
                have hfz34_0:=aA BK101.out 0
                have hfz34_1:=aA BK101.out 1
                go_wp2_with (first|(go_at_call 75;(with_reducible refine (bM a1 x7_1 true _ A16.out).mono ?_);rintro e w' ⟨rfl,⟨nd,rfl⟩⟩)|(go_at_call 75;(with_reducible refine (bM a1 x8_2 true _ A18.out).mono ?_);rintro e w' ⟨rfl,⟨nd,rfl⟩⟩)|(go_at_call 75;(with_reducible refine (bM a1 x9_3 false _ A20.out).mono ?_);rintro e w' ⟨rfl,⟨nd,rfl⟩⟩))
                go_roundg k3
                case measure=>have:=HK1.out;have:=HK2.out;have:=HK3.out;omega
                case rel=>exact ⟨(wrap64 (x9_3+1)),aH,H',⟨by have:=HK1.out;have:=HK2.out;have:=HK3.out;omega⟩,⟨fO BK101⟩,⟨aX HB⟩⟩
              ·replace c19:=Bool.eq_false_iff.mpr c19
               subst c19
               rw [if_neg (show ¬ (false=true) by decide)] at H
               have H':=aE H
               clear H
               have hcz35_0:=aW BK101 0
               have hcz35_1:=aW BK101 1
               have hfz35_0:=aA BK101.out 0
               have hfz35_1:=aA BK101.out 1
               go_wp2_with (first|(go_at_call 75;(with_reducible refine (bM a1 x7_1 true _ A16.out).mono ?_);rintro e w' ⟨rfl,⟨nd,rfl⟩⟩)|(go_at_call 75;(with_reducible refine (bM a1 x8_2 false _ A18.out).mono ?_);rintro e w' ⟨rfl,⟨nd,rfl⟩⟩))
               go_roundg k3
               case measure=>have:=HK1.out;have:=HK2.out;have:=HK3.out;omega
               case rel=>exact ⟨(wrap64 (x9_3+1)),aH,H',⟨by have:=HK1.out;have:=HK2.out;have:=HK3.out;omega⟩,⟨fO BK101⟩,⟨aX HB⟩⟩
             ·replace c17:=Bool.eq_false_iff.mpr c17
              subst c17
              rw [if_neg (show ¬ (false=true) by decide)] at H
              have H':=aE H
              clear H
              have hcz36_0:=aW BK101 0
              have hcz36_1:=aW BK101 1
              have hfz36_0:=aA BK101.out 0
              have hfz36_1:=aA BK101.out 1
              go_wp2_with (first|(go_at_call 75;(with_reducible refine (bM a1 x7_1 false _ A16.out).mono ?_);rintro e w' ⟨rfl,⟨nd,rfl⟩⟩))
              go_roundg k3
              case measure=>have:=HK1.out;have:=HK2.out;have:=HK3.out;omega
              case rel=>exact ⟨(wrap64 (x9_3+1)),aH,H',⟨by have:=HK1.out;have:=HK2.out;have:=HK3.out;omega⟩,⟨fO BK101⟩,⟨aX HB⟩⟩
         ·have H':=aE H
          clear H
          have hcz37_0:=aW BK101 0
          have hcz37_1:=aW BK101 1
          have hfz37_0:=aA BK101.out 0
          have hfz37_1:=aA BK101.out 1
          go_wp2
          go_roundg k3
          case measure=>have:=HK1.out;have:=HK2.out;have:=HK3.out;omega
          case rel=>exact ⟨(wrap64 (x8_2+1)),aH,H',⟨by have:=HK1.out;have:=HK2.out;have:=HK3.out;omega⟩,⟨fO BK101⟩,⟨aX HB⟩⟩
      ·have H':=aE H
       clear H
       have hcz38_0:=aW BK101 0
       have hcz38_1:=aW BK101 1
       have hfz38_0:=aA BK101.out 0
       have hfz38_1:=aA BK101.out 1
       go_wp2
       go_roundg k2
       case measure=>have:=HK1.out;have:=HK2.out;omega
       case rel=>exact ⟨(wrap64 (x7_1+1)),aH,H',⟨by have:=HK1.out;have:=HK2.out;omega⟩,⟨fO BK101⟩,⟨aX HB⟩⟩
   ·obtain rfl:=Option.some.inj H
    have hcz39_0:=aW BK101 0
    have hcz39_1:=aW BK101 1
    have hfz39_0:=aA BK101.out 0
    have hfz39_1:=aA BK101.out 1
    go_wp2
    go_ret
    exact ⟨bP,aX HB⟩
/-! ### spec_l6Extreme: function 59 -/
def dE:Nat→Int→Int→Int→Int→ByteArray→Option (Int)
 | 0,_,_,_,_,_=>none
 | k+1,x1,x5,x6,x102000,x102001=>if x6<x102000 then ((spec_l6Has.f x1 x6).bind fun t102=>(if t102=true then ((spec_l6In.f k x102000 x102001 x1 x6).bind fun t103=>(if t103=true then (dE k x1 x5 (wrap64 (x6+1)) x102000 x102001) else (if 0≤(IntKind.u64.wrap (x6)) then (dE k x1 (wrap64 (x5+(kS .i64 1 (IntKind.u64.wrap (x6))))) (wrap64 (x6+1)) x102000 x102001) else (none)))) else (dE k x1 x5 (wrap64 (x6+1)) x102000 x102001))) else (some x5)
def spec_l6Extreme.f (k:Nat) (a0_0:Int) (a0_1:ByteArray) (a1:Int):Option (Int):=dE k a1 0 0 a0_0 a0_1
set_option maxHeartbeats 8000000 in
set_option maxRecDepth 100000 in
theorem nH (k:Nat) (a0_0:Int) (a0_1:ByteArray) (a1:Int) (r:Int) (w:World) (h:spec_l6Extreme.f k a0_0 a0_1 a1=some r) :
  Calls Tryz.prog 59 #[.agg #[.int .i64 a0_0,.string a0_1],.int .i64 a1] w fun e w'=>e=.returned (.int .i64 r)∧Below w.heap.size w w':=by
 have hu41:=Tryz.underlying41
 have HB:=aE (Below.refl w.heap.size w)
 unfold spec_l6Extreme.f at h
 have H:=h
 clear h
 have H':=aE H
 clear H
 go_enter Tryz.func59,Tryz.ntmps59
 go_wp2_with (first|((with_reducible refine aN (N:=2) rfl ?_);refine bV (N:=2) #[.int .i64 a0_0,.string a0_1] 41 ?_;intro gb101 hg w3 hbox hb;have BK101:=aE (hbox);have GW101:=aE ((dX HB hg));have GE101:=aE ((dX HB hg));replace HB:=aE (aD (aX HB) hb);clear hb hbox hg))
 go_loopg [5,6] k (fun kq v5 v6 w'=>∃ (x5_1:Int) (x6_1:Int),v5=.int .i64 x5_1∧v6=.int .i64 x6_1∧Aside0 (dE kq a1 x5_1 x6_1 a0_0 a0_1=some r)∧Aside0 (kq≤k)∧Aside0 (w'.heap[gb101]? = some (.cells #[.int .i64 a0_0,.string a0_1] 41 (0,0)))∧Aside0 (Below w.heap.size w w'))
 case atStart=>exact ⟨(0),(0),aH,aH,H',⟨Nat.le_refl _⟩,⟨fO BK101⟩,⟨aX HB⟩⟩
 case round =>
  clear H'
  obtain ⟨x5_1,x6_1,rfl,rfl,HA,HK1,BK101,HB⟩:=hrel
  cases gk with
  | zero=>exact absurd HA.out (by simp [dE])
  | succ k1 =>
   have H:=HA.out
   clear HA
   simp only [dE] at H
   rcases eV H with ⟨c4b0,H⟩|⟨c4b0,H⟩
   ·replace H:=DB H
    obtain ⟨t102,A50,H⟩:=H
    have A5:=aE A50
    clear A50
    by_cases c6:t102=true
    ·subst c6
     rw [if_pos rfl] at H
     replace H:=eM H
     obtain ⟨t103,A7,H⟩:=H
     by_cases c8:t103=true
     ·subst c8
      rw [if_pos rfl] at H
      have H':=aE H
      clear H
      have hcz9_0:=aW BK101 0
      have hcz9_1:=aW BK101 1
      have hfz9_0:=aA BK101.out 0
      have hfz9_1:=aA BK101.out 1
      go_wp2_with (first|((with_reducible refine aJ (f:=75) rfl ?_);refine aV (some 15) Tryz.func75 #[.int .i64 a1,.int .i64 x6_1] ?_;(with_reducible refine (bM a1 x6_1 true _ A5.out).mono ?_);rintro e w' ⟨rfl,⟨nd,rfl⟩⟩;refine ⟨_,rfl,?_⟩)|(go_at_call 57;(with_reducible refine (oJ k1 a0_0 a0_1 a1 x6_1 true _ A7.out).mono ?_);rintro e w10 ⟨rfl,hb⟩;replace BK101:=aE (bB BK101 hb);replace HB:=aE (aD (aX HB) hb);(try clear hb)))
      go_roundg k1
      case measure=>have:=HK1.out;omega
      case rel=>exact ⟨(x5_1),(wrap64 (x6_1+1)),aH,aH,H',⟨by have:=HK1.out;omega⟩,⟨fO BK101⟩,⟨aX HB⟩⟩
     ·replace c8:=Bool.eq_false_iff.mpr c8
      subst c8
      rw [if_neg (show ¬ (false=true) by decide)] at H
      obtain ⟨ji11,hji11⟩:∃ j_:Int,(IntKind.u64.wrap (x6_1))=j_:=⟨_,rfl⟩
      replace H:(if 0≤(ji11) then (dE k1 a1 (wrap64 (x5_1+(kS .i64 1 (ji11)))) (wrap64 (x6_1+1)) a0_0 a0_1) else (none))=some r:=by first|(rw [hji11] at H;exact H)|(simp only [hji11] at H ⊢;exact H)
      (try rw [hji11] at A5)
      (try rw [hji11] at A7)
      obtain ⟨c12,H⟩:=gQ H
      have c12b0:=eq_true c12
      have c12b1:=decide_eq_true c12
      clear c12
      obtain ⟨ji13,hji13⟩:∃ j_:Int,(kS .i64 1 (ji11))=j_:=⟨_,rfl⟩
      replace H:(dE k1 a1 (wrap64 (x5_1+(ji13))) (wrap64 (x6_1+1)) a0_0 a0_1)=some r:=by first|(rw [hji13] at H;exact H)|(simp only [hji13] at H ⊢;exact H)
      (try rw [hji13] at A5)
      (try rw [hji13] at A7)
      have hji13_:(IntKind.i64.wrap (1*2 ^ min (ji11).toNat 64))=ji13:=hji13
      have hji13z:(ji11)≤64→(IntKind.i64.wrap (1*2 ^ (ji11).toNat))=ji13:=jC hji13
      have hji13u:(IntKind.i64.wrap (2 ^ min (ji11).toNat 64))=ji13:=by have h_:=hji13_;rw [Int.one_mul] at h_;exact h_
      have hji13v:(ji11)≤64→(IntKind.i64.wrap (2 ^ (ji11).toNat))=ji13:=fun hle_=>by have h_:=hji13z hle_;rw [Int.one_mul] at h_;exact h_
      have hji13y:(wrap64 (1*2 ^ min (ji11).toNat 64))=ji13:=(cC _).symm.trans hji13_
      have hji13x:(ji11)≤64→(wrap64 (1*2 ^ (ji11).toNat))=ji13:=fun h_=>(cC _).symm.trans (hji13z h_)
      have H':=aE H
      clear H
      have hcz14_0:=aW BK101 0
      have hcz14_1:=aW BK101 1
      have hfz14_0:=aA BK101.out 0
      have hfz14_1:=aA BK101.out 1
      go_wp2_with (first|((with_reducible refine aJ (f:=75) rfl ?_);refine aV (some 15) Tryz.func75 #[.int .i64 a1,.int .i64 x6_1] ?_;(with_reducible refine (bM a1 x6_1 true _ A5.out).mono ?_);rintro e w' ⟨rfl,⟨nd,rfl⟩⟩;refine ⟨_,rfl,?_⟩)|(go_at_call 57;(with_reducible refine (oJ k1 a0_0 a0_1 a1 x6_1 false _ A7.out).mono ?_);rintro e w15 ⟨rfl,hb⟩;replace BK101:=aE (bB BK101 hb);replace HB:=aE (aD (aX HB) hb);(try clear hb)))
      go_roundg k1
      case measure=>have:=HK1.out;omega
      case rel=>exact ⟨(wrap64 (x5_1+(ji13))),(wrap64 (x6_1+1)),(by first|rfl|(simp;done)|(simp only [← hji13] <;> (first|rfl|simp))|(simp [*];done)),aH,H',⟨by have:=HK1.out;omega⟩,⟨fO BK101⟩,⟨aX HB⟩⟩
    ·replace c6:=Bool.eq_false_iff.mpr c6
     subst c6
     rw [if_neg (show ¬ (false=true) by decide)] at H
     have H':=aE H
     clear H
     have hcz16_0:=aW BK101 0
     have hcz16_1:=aW BK101 1
     have hfz16_0:=aA BK101.out 0
     have hfz16_1:=aA BK101.out 1
     go_wp2_with (first|((with_reducible refine aJ (f:=75) rfl ?_);refine aV (some 15) Tryz.func75 #[.int .i64 a1,.int .i64 x6_1] ?_;(with_reducible refine (bM a1 x6_1 false _ A5.out).mono ?_);rintro e w' ⟨rfl,⟨nd,rfl⟩⟩;refine ⟨_,rfl,?_⟩))
     go_roundg k1
     case measure=>have:=HK1.out;omega
     case rel=>exact ⟨(x5_1),(wrap64 (x6_1+1)),aH,aH,H',⟨by have:=HK1.out;omega⟩,⟨fO BK101⟩,⟨aX HB⟩⟩
   ·obtain rfl:=Option.some.inj H
    have hcz17_0:=aW BK101 0
    have hcz17_1:=aW BK101 1
    have hfz17_0:=aA BK101.out 0
    have hfz17_1:=aA BK101.out 1
    go_wp2
    go_ret
    exact ⟨bP,aX HB⟩
/-! ### spec_l6Left: function 76 -/
def dC:Nat→Int→Int→Int→Int→Int→ByteArray→Option (Bool)
 | 0,_,_,_,_,_,_=>none
 | k+1,x1,x2,x3,x9,x102000,x102001=>if x9<x102000 then (if x9=x2 then (dC k x1 x2 x3 (wrap64 (x9+1)) x102000 x102001) else (if x9=x3 then (dC k x1 x2 x3 (wrap64 (x9+1)) x102000 x102001) else ((spec_l6Has.f x1 x9).bind fun t102=>(if t102=true then ((spec_l3At.f k x102000 x102001 x2 x3 x9).bind fun t103=>(if t103<0 then (some false) else (dC k x1 x2 x3 (wrap64 (x9+1)) x102000 x102001))) else (dC k x1 x2 x3 (wrap64 (x9+1)) x102000 x102001))))) else (some true)
def spec_l6Left.f (k:Nat) (a0_0:Int) (a0_1:ByteArray) (a1:Int) (a2:Int) (a3:Int):Option (Bool):=dC k a1 a2 a3 0 a0_0 a0_1
set_option maxHeartbeats 8000000 in
set_option maxRecDepth 100000 in
theorem rI (k : Nat) (a0_0 : Int) (a0_1 : ByteArray) (a1 : Int) (a2 : Int) (a3 : Int) (r : Bool) (w : World) (h : spec_l6Left.f k a0_0 a0_1 a1 a2 a3 = some r) :
  Calls Tryz.prog 76 #[.agg #[.int .i64 a0_0,.string a0_1],.int .i64 a1,.int .i64 a2,.int .i64 a3] w fun e w'=>e=.returned (.bool r)∧Below w.heap.size w w':=by
 have hu41:=Tryz.underlying41
 have HB:=aE (Below.refl w.heap.size w)
 unfold spec_l6Left.f at h
 have H:=h
 clear h
 have H':=aE H
 clear H
 go_enter Tryz.func76,Tryz.ntmps76
 go_wp2_with (first|((with_reducible refine aN (N:=4) rfl ?_);refine bV (N:=4) #[.int .i64 a0_0,.string a0_1] 41 ?_;intro gb101 hg w5 hbox hb;have BK101:=aE (hbox);have GW101:=aE ((dX HB hg));have GE101:=aE ((dX HB hg));replace HB:=aE (aD (aX HB) hb);clear hb hbox hg))
 go_loopg [9] k (fun kq v9 w'=>∃ (x9_1:Int),v9=.int .i64 x9_1∧Aside0 (dC kq a1 a2 a3 x9_1 a0_0 a0_1=some r)∧Aside0 (kq≤k)∧Aside0 (w'.heap[gb101]? = some (.cells #[.int .i64 a0_0,.string a0_1] 41 (0,0)))∧Aside0 (Below w.heap.size w w'))
 case atStart=>exact ⟨(0),aH,H',⟨Nat.le_refl _⟩,⟨fO BK101⟩,⟨aX HB⟩⟩
 case round =>
  clear H'
  obtain ⟨x9_1,rfl,HA,HK1,BK101,HB⟩:=hrel
  cases gk with
  | zero=>exact absurd HA.out (by simp [dC])
  | succ k1 =>
   have H:=HA.out
   clear HA
   simp only [dC] at H
   rcases eV H with ⟨c6b0,H⟩|⟨c6b0,H⟩
   ·rcases jE H with ⟨c7,H⟩|⟨c7,H⟩
    ·have c7b0:(x9_1==a2)=true:=beq_iff_eq.mpr c7
     have c7b1:(x9_1 != a2)=false:=bne_eq_false_iff_eq.mpr c7
     clear c7
     have H':=aE H
     clear H
     have hcz8_0:=aW BK101 0
     have hcz8_1:=aW BK101 1
     have hfz8_0:=aA BK101.out 0
     have hfz8_1:=aA BK101.out 1
     go_wp2
     go_roundg k1
     case measure=>have:=HK1.out;omega
     case rel=>exact ⟨(wrap64 (x9_1+1)),aH,H',⟨by have:=HK1.out;omega⟩,⟨fO BK101⟩,⟨aX HB⟩⟩
    ·have c7b0:(x9_1==a2)=false:=beq_eq_false_iff_ne.mpr c7
     have c7b1:(x9_1 != a2)=true:=bne_iff_ne.mpr c7
     rcases jE H with ⟨c9,H⟩|⟨c9,H⟩
     ·have c9b0:(x9_1==a3)=true:=beq_iff_eq.mpr c9
      have c9b1:(x9_1 != a3)=false:=bne_eq_false_iff_eq.mpr c9
      clear c9
      have H':=aE H
      clear H
      have hcz10_0:=aW BK101 0
      have hcz10_1:=aW BK101 1
      have hfz10_0:=aA BK101.out 0
      have hfz10_1:=aA BK101.out 1
      go_wp2
      go_roundg k1
      case measure=>have:=HK1.out;omega
      case rel=>exact ⟨(wrap64 (x9_1+1)),aH,H',⟨by have:=HK1.out;omega⟩,⟨fO BK101⟩,⟨aX HB⟩⟩
     ·have c9b0:(x9_1==a3)=false:=beq_eq_false_iff_ne.mpr c9
      have c9b1:(x9_1 != a3)=true:=bne_iff_ne.mpr c9
      replace H:=eM H
      obtain ⟨t102,A11,H⟩:=H
      by_cases c12:t102=true
      ·subst c12
       rw [if_pos rfl] at H
       replace H:=eM H
       obtain ⟨t103,A13,H⟩:=H
       rcases eV H with ⟨c14b0,H⟩|⟨c14b0,H⟩
       ·obtain rfl:=Option.some.inj H
        have hcz15_0:=aW BK101 0
        have hcz15_1:=aW BK101 1
        have hfz15_0:=aA BK101.out 0
        have hfz15_1:=aA BK101.out 1
        go_wp2_with (first|(go_at_call 75;(with_reducible refine (bM a1 x9_1 true _ A11.out).mono ?_);rintro e w' ⟨rfl,⟨nd,rfl⟩⟩)|(go_at_call 100;(with_reducible refine (cU k1 a0_0 a0_1 a2 a3 x9_1 t103 _ A13.out).mono ?_);rintro e w16 ⟨rfl,hb⟩;replace BK101:=aE (bB BK101 hb);replace HB:=aE (aD (aX HB) hb);(try clear hb)))
        go_ret
        exact ⟨bP,aX HB⟩
       ·have H':=aE H
        clear H
        have hcz17_0:=aW BK101 0
        have hcz17_1:=aW BK101 1
        have hfz17_0:=aA BK101.out 0
        have hfz17_1:=aA BK101.out 1
        go_wp2_with (first|(go_at_call 75;(with_reducible refine (bM a1 x9_1 true _ A11.out).mono ?_);rintro e w' ⟨rfl,⟨nd,rfl⟩⟩)|(go_at_call 100;(with_reducible refine (cU k1 a0_0 a0_1 a2 a3 x9_1 t103 _ A13.out).mono ?_);rintro e w18 ⟨rfl,hb⟩;replace BK101:=aE (bB BK101 hb);replace HB:=aE (aD (aX HB) hb);(try clear hb)))
        go_roundg k1
        case measure=>have:=HK1.out;omega
        case rel=>exact ⟨(wrap64 (x9_1+1)),aH,H',⟨by have:=HK1.out;omega⟩,⟨fO BK101⟩,⟨aX HB⟩⟩
      ·replace c12:=Bool.eq_false_iff.mpr c12
       subst c12
       rw [if_neg (show ¬ (false=true) by decide)] at H
       have H':=aE H
       clear H
       have hcz19_0:=aW BK101 0
       have hcz19_1:=aW BK101 1
       have hfz19_0:=aA BK101.out 0
       have hfz19_1:=aA BK101.out 1
       go_wp2_with (first|(go_at_call 75;(with_reducible refine (bM a1 x9_1 false _ A11.out).mono ?_);rintro e w' ⟨rfl,⟨nd,rfl⟩⟩))
       go_roundg k1
       case measure=>have:=HK1.out;omega
       case rel=>exact ⟨(wrap64 (x9_1+1)),aH,H',⟨by have:=HK1.out;omega⟩,⟨fO BK101⟩,⟨aX HB⟩⟩
   ·obtain rfl:=Option.some.inj H
    have hcz20_0:=aW BK101 0
    have hcz20_1:=aW BK101 1
    have hfz20_0:=aA BK101.out 0
    have hfz20_1:=aA BK101.out 1
    go_wp2
    go_ret
    exact ⟨bP,aX HB⟩
/-! ### spec_HullOf: function 54 -/
mutual
def gG:Nat→List Int→Int→Int→Int→Int→ByteArray→Option (List Int)
 | 0,_,_,_,_,_,_=>none
 | k+1,x3,x4,x5,x6,x102000,x102001=>(spec_l6Has.f x5 x6).bind fun t107=>(if t107=true then (iJ k x3 x4 x5 x6 0 x102000 x102001) else (gG k x3 x4 x5 (wrap64 (x6+1)) x102000 x102001))
def iJ:Nat→List Int→Int→Int→Int→Int→Int→ByteArray→Option (List Int)
 | 0,_,_,_,_,_,_,_=>none
 | k+1,x3,x4,x5,x6,x7,x102000,x102001=>if x7<x102000 then (if x3.length<17592186044416 then (bR k (x3++[x6]) x4 x5 x6 x7 (-1) 0 x102000 x102001) else (none)) else (some x3)
def bR:Nat→List Int→Int→Int→Int→Int→Int→Int→Int→ByteArray→Option (List Int)
 | 0,_,_,_,_,_,_,_,_,_=>none
 | k+1,x3,x4,x5,x6,x7,x8,x9,x102000,x102001=>if x9<x102000 then (if x9=x6 then (bR k x3 x4 x5 x6 x7 x8 (wrap64 (x9+1)) x102000 x102001) else ((spec_l6Has.f x5 x9).bind fun t112=>(if t112=true then ((spec_l6Left.f k x102000 x102001 x4 x6 x9).bind fun t113=>(if t113=true then (bR k x3 x4 x5 x6 x7 x9 (wrap64 (x9+1)) x102000 x102001) else (bR k x3 x4 x5 x6 x7 x8 (wrap64 (x9+1)) x102000 x102001))) else (bR k x3 x4 x5 x6 x7 x8 (wrap64 (x9+1)) x102000 x102001)))) else (if 0<(x3.length:Int) then (if x8=(rd x3 0) then (some x3) else (if x8<0 then (some x3) else (iJ k x3 x4 x5 x8 (wrap64 (x7+1)) x102000 x102001))) else (none))
end
def spec_HullOf.f (k:Nat) (a0_0:Int) (a0_1:ByteArray):Option (List Int):=(some (([]:List Int):List Int)).bind fun y102=>((spec_IsAcyclic.f k a0_0 a0_1).bind fun t105=>(if t105=true then (if 0≤(IntKind.u64.wrap (a0_0)) then ((spec_l6Extreme.f k a0_0 a0_1 (wrap64 ((kS .i64 1 (IntKind.u64.wrap (a0_0)))-1))).bind fun t106=>(gG k y102 (wrap64 ((kS .i64 1 (IntKind.u64.wrap (a0_0)))-1)) t106 0 a0_0 a0_1)) else (none)) else (some y102)))
set_option maxHeartbeats 8000000 in
set_option maxRecDepth 100000 in
theorem rJ (k : Nat) (a0_0 : Int) (a0_1 : ByteArray) (r : List Int) (w : World) (h : spec_HullOf.f k a0_0 a0_1 = some r) :
  Calls Tryz.prog 54 #[.agg #[.int .i64 a0_0,.string a0_1]] w fun e w'=>∃ v0_:Value,e=.returned (v0_)∧Kd.R (Kd.int .i64) 3 w' w.heap.size (fun _=>True) v0_ r∧Below w.heap.size w w':=by
 have hu41:=Tryz.underlying41
 have HB:=aE (Below.refl w.heap.size w)
 unfold spec_HullOf.f at h
 have H:=h
 clear h
 obtain ⟨y102,hy102⟩:∃ y_:List Int,y_=(([]:List Int)):=⟨_,rfl⟩
 first|(with_reducible replace H:=oO hy102 H)|(with_reducible replace H:=oP hy102 H)|rw [← hy102] at H
 have Ny102:=aE hy102
 clear hy102
 replace H:=eM H
 obtain ⟨t105,A2,H⟩:=H
 by_cases c3:t105=true
 ·subst c3
  rw [if_pos rfl] at H
  obtain ⟨ji4,hji4⟩:∃ j_:Int,(IntKind.u64.wrap (a0_0))=j_:=⟨_,rfl⟩
  replace H:(if 0≤(ji4) then ((spec_l6Extreme.f k a0_0 a0_1 (wrap64 ((kS .i64 1 (ji4))-1))).bind fun t106=>(gG k y102 (wrap64 ((kS .i64 1 (ji4))-1)) t106 0 a0_0 a0_1)) else (none))=some r:=by first|(rw [hji4] at H;exact H)|(simp only [hji4] at H ⊢;exact H)
  (try rw [hji4] at A2)
  obtain ⟨c5,H⟩:=gQ H
  have c5b0:=eq_true c5
  have c5b1:=decide_eq_true c5
  clear c5
  obtain ⟨ji6,hji6⟩:∃ j_:Int,(kS .i64 1 (ji4))=j_:=⟨_,rfl⟩
  replace H:((spec_l6Extreme.f k a0_0 a0_1 (wrap64 ((ji6)-1))).bind fun t106=>(gG k y102 (wrap64 ((ji6)-1)) t106 0 a0_0 a0_1))=some r:=by first|(rw [hji6] at H;exact H)|(simp only [hji6] at H ⊢;exact H)
  (try rw [hji6] at A2)
  have hji6_:(IntKind.i64.wrap (1*2 ^ min (ji4).toNat 64))=ji6:=hji6
  have hji6z:(ji4)≤64→(IntKind.i64.wrap (1*2 ^ (ji4).toNat))=ji6:=jC hji6
  have hji6u:(IntKind.i64.wrap (2 ^ min (ji4).toNat 64))=ji6:=by have h_:=hji6_;rw [Int.one_mul] at h_;exact h_
  have hji6v:(ji4)≤64→(IntKind.i64.wrap (2 ^ (ji4).toNat))=ji6:=fun hle_=>by have h_:=hji6z hle_;rw [Int.one_mul] at h_;exact h_
  have hji6y:(wrap64 (1*2 ^ min (ji4).toNat 64))=ji6:=(cC _).symm.trans hji6_
  have hji6x:(ji4)≤64→(wrap64 (1*2 ^ (ji4).toNat))=ji6:=fun h_=>(cC _).symm.trans (hji6z h_)
  replace H:=eM H
  obtain ⟨t106,A7,H⟩:=H
  have H':=aE H
  clear H
  go_enter Tryz.func54,Tryz.ntmps54
  go_wp2_with (first|((with_reducible refine aN (N:=1) rfl ?_);refine bV (N:=1) #[.int .i64 a0_0,.string a0_1] 41 ?_;intro gb101 hg w8 hbox hb;have BK101:=aE (hbox);have GW101:=aE ((dX HB hg));have GE101:=aE ((dX HB hg));replace HB:=aE (aD (aX HB) hb);clear hb hbox hg)|((with_reducible refine aN (N:=10) rfl ?_);refine Kd.R_lit (Kd.int .i64) _ 3 ?hg (N:=10) ?hd (xs:=([]:List Int)) (inner:=[]) (ok:=fun _=>True) (okp:=fun _=>True) ?hr ?hp (fun _ hk=>hk) trivial (Below.refl _ _) (Nat.le_refl _) (by simp) ?_;(case hd=>rfl);(case hg=>rfl);(case hr=>first|(go_simp;done)|(go_simp;rfl));(case hp=>exact (kC.none _ _));intro v103 w9 ho10 hb hg_ hnew_;clear hg_ hnew_;(first|rw [← Ny102.out] at ho10|(simp only [Int.reduceToNat] at ho10;rw [← Ny102.out] at ho10));have HO104:=aE (Kd.R_lower ho10 (aT (aX HB)));replace BK101:=aE (bB BK101 hb);replace HB:=aE (aD (aX HB) hb);clear hb ho10;have hcz11_0:=aW BK101 0;have hcz11_1:=aW BK101 1;have hfz11_0:=aA BK101.out 0;have hfz11_1:=aA BK101.out 1)|((with_reducible refine aJ (f:=56) rfl ?_);refine aV (some 12) Tryz.func56 #[.agg #[.int .i64 a0_0,.string a0_1]] ?_;(with_reducible refine (gE k a0_0 a0_1 true _ A2.out).mono ?_);rintro e w12 ⟨rfl,hb⟩;refine ⟨_,rfl,?_⟩;replace HO104:=aE (Kd.R_below (bN HO104) hb);replace BK101:=aE (bB BK101 hb);replace HB:=aE (aD (aX HB) hb);(try clear hb);(try clear hk);have hcz13_0:=aW BK101 0;have hcz13_1:=aW BK101 1;have hfz13_0:=aA BK101.out 0;have hfz13_1:=aA BK101.out 1)|((with_reducible refine aJ (f:=59) rfl ?_);refine GH (some 22) rfl rfl Tryz.func59 (by kernel_rfl) rfl #[.agg #[.int .i64 a0_0,.string a0_1],.int .i64 (wrap64 ((ji6)-1))] rfl (by (try simp only [List.map_toArray,List.map_cons,List.map_nil]);first|done|(simp only [hji6];rfl)|rfl|(simp only [List.length_drop,List.length_take];rfl)) ?_;(with_reducible refine (nH k a0_0 a0_1 (wrap64 ((ji6)-1)) t106 _ A7.out).mono ?_);rintro e w14 ⟨rfl,hb⟩;refine ⟨_,rfl,?_⟩;replace HO104:=aE (Kd.R_below (bN HO104) hb);replace BK101:=aE (bB BK101 hb);replace HB:=aE (aD (aX HB) hb);(try clear hb);(try clear hk)))
  go_loopg [6] k (fun kq v6 w'=>∃ (x6_1:Int),v6=.int .i64 x6_1∧Aside0 (gG kq y102 (wrap64 ((ji6)-1)) t106 x6_1 a0_0 a0_1=some r)∧Aside0 (kq≤k)∧Aside0 (Kd.R (Kd.int .i64) 3 w' w.heap.size (fun _=>True) v103 y102)∧Aside0 (w'.heap[gb101]? = some (.cells #[.int .i64 a0_0,.string a0_1] 41 (0,0)))∧Aside0 (Below w.heap.size w w'))
  case atStart=>exact ⟨(0),aH,H',⟨Nat.le_refl _⟩,⟨bN HO104⟩,⟨fO BK101⟩,⟨aX HB⟩⟩
  case round =>
   clear H'
   try clear c3
   try clear c5
   try clear c5b0
   try clear c5b1
   try clear hcz11_0
   try clear hcz11_1
   try clear hcz13_0
   try clear hcz13_1
   try clear hfz11_0
   try clear hfz11_1
   try clear hfz13_0
   try clear hfz13_1
   obtain ⟨x6_1,rfl,HA,HK1,HO_3,BK101,HB⟩:=hrel
   cases gk with
   | zero=>exact absurd HA.out (by simp [gG])
   | succ k1 =>
    have H:=HA.out
    clear HA
    simp only [gG] at H
    replace H:=eM H
    obtain ⟨t107,A15,H⟩:=H
    by_cases c16:t107=true
    ·subst c16
     rw [if_pos rfl] at H
     have H':=aE H
     clear H
     go_wp2_with (first|((with_reducible refine aJ (f:=75) rfl ?_);refine aV (some 25) Tryz.func75 #[.int .i64 t106,.int .i64 x6_1] ?_;(with_reducible refine (bM t106 x6_1 true _ A15.out).mono ?_);rintro e w' ⟨rfl,⟨nd,rfl⟩⟩;refine ⟨_,rfl,?_⟩))
     go_loopg [3,6,7] k1 (fun kq v3 v6 v7 w'=>∃ (x3_2:List Int) (x6_2:Int) (x7_2:Int),v6=.int .i64 x6_2∧v7=.int .i64 x7_2∧Aside0 (iJ kq x3_2 (wrap64 ((ji6)-1)) t106 x6_2 x7_2 a0_0 a0_1=some r)∧Aside0 (kq≤k1)∧Aside0 (Kd.R (Kd.int .i64) 3 w' w.heap.size (fun _=>True) v3 x3_2)∧Aside0 (w'.heap[gb101]? = some (.cells #[.int .i64 a0_0,.string a0_1] 41 (0,0)))∧Aside0 (Below w.heap.size w w'))
     case atStart=>exact ⟨(y102),(x6_1),(0),aH,aH,H',⟨Nat.le_refl _⟩,⟨bN HO_3⟩,⟨fO BK101⟩,⟨aX HB⟩⟩
     case round =>
      clear H'
      try clear c3
      try clear c5
      try clear c5b0
      try clear c5b1
      try clear c16
      try clear hcz11_0
      try clear hcz11_1
      try clear hcz13_0
      try clear hcz13_1
      try clear hfz11_0
      try clear hfz11_1
      try clear hfz13_0
      try clear hfz13_1
      obtain ⟨x3_2,x6_2,x7_2,rfl,rfl,HA,HK2,HO_3,BK101,HB⟩:=hrel
      cases gk with
      | zero=>exact absurd HA.out (by simp [iJ])
      | succ k2 =>
       have H:=HA.out
       clear HA
       simp only [iJ] at H
       rcases eV H with ⟨c17b0,H⟩|⟨c17b0,H⟩
       ·obtain ⟨c18,H⟩:=gQ H
        have LMc18:=aE c18
        clear c18
        obtain ⟨y108,hy108⟩:∃ y_:List Int,y_=(x3_2++[x6_2]):=⟨_,rfl⟩
        first|(with_reducible replace H:=oO hy108 H)|(with_reducible replace H:=oP hy108 H)|rw [← hy108] at H
        have Ny108:=aE hy108
        clear hy108
        have H':=aE H
        clear H
        have hcz19_0:=aW BK101 0
        have hcz19_1:=aW BK101 1
        have hfz19_0:=aA BK101.out 0
        have hfz19_1:=aA BK101.out 1
        go_wp2_with (first|((with_reducible refine cT (b:=.append) (xs:=#[.tmp 35,.tmp 37]) rfl ?_);at_builtin;refine Kd.R_append (Kd.int .i64) (w0:=w) w.heap.size rfl (.tmp 35) (.tmp 37) 33 3 (.int .i64 0) 8 rfl Tryz.underlying33 mO rfl (by decide) (by omega) u3 x3_2 x6_2 [.int .i64 x6_2] (fun _=>True) (fun _=>False) rfl rfl ?aP (fun _ hk=>hk.elim) ?aF ?aO ?aB ?aS ?aL ?_;(case aP=>exact rfl);(case aB=>exact (aX HB));(case aF=>exact (fun _ _=>trivial));(case aO=>exact (bN HO_3));(case aS=>exact (aT (aX HB)));(case aL=>have:=LMc18.out;omega);intro v109 w20 ho hb hg hat;rw [← Ny108.out] at ho;replace BK101:=aE (kL (g:=gb101) (o:=.cells #[.int .i64 a0_0,.string a0_1] 41 (0,0)) (fO BK101) hg (Kd.R_ne HO_3.out BK101.out (by decide)));replace HB:=aE (hb);have HO110:=aE (ho);clear HO_3;clear ho hb hg hat))
        go_loopg [8,9] k2 (fun kq v8 v9 w'=>∃ (x8_3:Int) (x9_3:Int),v8=.int .i64 x8_3∧v9=.int .i64 x9_3∧Aside0 (bR kq y108 (wrap64 ((ji6)-1)) t106 x6_2 x7_2 x8_3 x9_3 a0_0 a0_1=some r)∧Aside0 (kq≤k2)∧Aside0 (Kd.R (Kd.int .i64) 3 w' w.heap.size (fun _=>True) v109 y108)∧Aside0 (w'.heap[gb101]? = some (.cells #[.int .i64 a0_0,.string a0_1] 41 (0,0)))∧Aside0 (Below w.heap.size w w'))
        case atStart=>exact ⟨((-1)),(0),aH,aH,H',⟨Nat.le_refl _⟩,⟨bN HO110⟩,⟨fO BK101⟩,⟨aX HB⟩⟩
        case round =>
         clear H'
         try clear c3
         try clear c5
         try clear c5b0
         try clear c5b1
         try clear c16
         try clear c17b0
         try clear c18
         try clear hcz11_0
         try clear hcz11_1
         try clear hcz13_0
         try clear hcz13_1
         try clear hcz19_0
         try clear hcz19_1
         try clear hfz11_0
         try clear hfz11_1
         try clear hfz13_0
         try clear hfz13_1
         try clear hfz19_0
         try clear hfz19_1
         obtain ⟨x8_3,x9_3,rfl,rfl,HA,HK3,HO_3,BK101,HB⟩:=hrel
         cases gk with
         | zero=>exact absurd HA.out (by simp [bR])
         | succ k3 =>
          have H:=HA.out
          clear HA
          simp only [bR] at H
          rcases eV H with ⟨c21b0,H⟩|⟨c21b0,H⟩
          ·rcases jE H with ⟨c22,H⟩|⟨c22,H⟩
           ·have c22b0:(x9_3==x6_2)=true:=beq_iff_eq.mpr c22
            have c22b1:(x9_3 != x6_2)=false:=bne_eq_false_iff_eq.mpr c22
            clear c22
            have H':=aE H
            clear H
            have hcz23_0:=aW BK101 0
            have hcz23_1:=aW BK101 1
            have hfz23_0:=aA BK101.out 0
            have hfz23_1:=aA BK101.out 1
            go_wp2
            go_roundg k3
            case measure=>have:=HK1.out;have:=HK2.out;have:=HK3.out;omega
            case rel=>exact ⟨(x8_3),(wrap64 (x9_3+1)),aH,aH,H',⟨by have:=HK1.out;have:=HK2.out;have:=HK3.out;omega⟩,⟨bN HO_3⟩,⟨fO BK101⟩,⟨aX HB⟩⟩
           ·have c22b0:(x9_3==x6_2)=false:=beq_eq_false_iff_ne.mpr c22
            have c22b1:(x9_3 != x6_2)=true:=bne_iff_ne.mpr c22
            replace H:=eM H
            obtain ⟨t112,A24,H⟩:=H
            by_cases c25:t112=true
            ·subst c25
             rw [if_pos rfl] at H
             replace H:=eM H
             obtain ⟨t113,A26,H⟩:=H
             by_cases c27:t113=true
             ·subst c27
              rw [if_pos rfl] at H
              have H':=aE H
              clear H
              have hcz28_0:=aW BK101 0
              have hcz28_1:=aW BK101 1
              have hfz28_0:=aA BK101.out 0
              have hfz28_1:=aA BK101.out 1
              go_wp2_with (first|(go_at_call 75;(with_reducible refine (bM t106 x9_3 true _ A24.out).mono ?_);rintro e w' ⟨rfl,⟨nd,rfl⟩⟩)|(go_at_call 76;(with_reducible refine (rI k3 a0_0 a0_1 (wrap64 ((ji6)-1)) x6_2 x9_3 true _ A26.out).mono ?_);rintro e w29 ⟨rfl,hb⟩;replace HO_3:=aE (Kd.R_below (bN HO_3) hb);replace BK101:=aE (bB BK101 hb);replace HB:=aE (aD (aX HB) hb);(try clear hb);(try clear hk)))
              go_roundg k3
              case measure=>have:=HK1.out;have:=HK2.out;have:=HK3.out;omega
              case rel=>exact ⟨(x9_3),(wrap64 (x9_3+1)),aH,aH,H',⟨by have:=HK1.out;have:=HK2.out;have:=HK3.out;omega⟩,⟨bN HO_3⟩,⟨fO BK101⟩,⟨aX HB⟩⟩
             ·replace c27:=Bool.eq_false_iff.mpr c27
              subst c27
              rw [if_neg (show ¬ (false=true) by decide)] at H
              have H':=aE H
              clear H
              have hcz30_0:=aW BK101 0
              have hcz30_1:=aW BK101 1
              have hfz30_0:=aA BK101.out 0
              have hfz30_1:=aA BK101.out 1
              go_wp2_with (first|(go_at_call 75;(with_reducible refine (bM t106 x9_3 true _ A24.out).mono ?_);rintro e w' ⟨rfl,⟨nd,rfl⟩⟩)|(go_at_call 76;(with_reducible refine (rI k3 a0_0 a0_1 (wrap64 ((ji6)-1)) x6_2 x9_3 false _ A26.out).mono ?_);rintro e w31 ⟨rfl,hb⟩;replace HO_3:=aE (Kd.R_below (bN HO_3) hb);replace BK101:=aE (bB BK101 hb);replace HB:=aE (aD (aX HB) hb);(try clear hb);(try clear hk)))
              go_roundg k3
              case measure=>have:=HK1.out;have:=HK2.out;have:=HK3.out;omega
              case rel=>exact ⟨(x8_3),(wrap64 (x9_3+1)),aH,aH,H',⟨by have:=HK1.out;have:=HK2.out;have:=HK3.out;omega⟩,⟨bN HO_3⟩,⟨fO BK101⟩,⟨aX HB⟩⟩
            ·replace c25:=Bool.eq_false_iff.mpr c25
             subst c25
             rw [if_neg (show ¬ (false=true) by decide)] at H
             have H':=aE H
             clear H
             have hcz32_0:=aW BK101 0
             have hcz32_1:=aW BK101 1
             have hfz32_0:=aA BK101.out 0
             have hfz32_1:=aA BK101.out 1
             go_wp2_with (first|(go_at_call 75;(with_reducible refine (bM t106 x9_3 false _ A24.out).mono ?_);rintro e w' ⟨rfl,⟨nd,rfl⟩⟩))
             go_roundg k3
             case measure=>have:=HK1.out;have:=HK2.out;have:=HK3.out;omega
             case rel=>exact ⟨(x8_3),(wrap64 (x9_3+1)),aH,aH,H',⟨by have:=HK1.out;have:=HK2.out;have:=HK3.out;omega⟩,⟨bN HO_3⟩,⟨fO BK101⟩,⟨aX HB⟩⟩
          ·obtain ⟨c33,H⟩:=gQ H
           have c33b0:=decide_eq_true c33
           have c33b1:decide (0<y108.length)=true:=decide_eq_true (by omega)
           clear c33
           rcases jE H with ⟨c34,H⟩|⟨c34,H⟩
           ·have c34b0:(x8_3==(rd y108 0))=true:=beq_iff_eq.mpr c34
            have c34b1:(x8_3 != (rd y108 0))=false:=bne_eq_false_iff_eq.mpr c34
            clear c34
            obtain rfl:=Option.some.inj H
            have hcz35_0:=aW BK101 0
            have hcz35_1:=aW BK101 1
            have hfz35_0:=aA BK101.out 0
            have hfz35_1:=aA BK101.out 1
            obtain ⟨Ao36,co36,eo36⟩:=Kd.R_slice HO_3.out
            subst eo36
            have p111:0≤(0:Int):=(by omega)
            have q111:0<(y108.length:Int):=bI
            obtain ⟨ad111,e111,hx111_0⟩:=Kd.at_int (Kd.R_reads' HO_3.out).2.2 0 p111 q111
            cases e111
            have qi111:(0<y108.length)=True:=eq_true (by omega)
            (try rw [show ((0:Int)).toNat=0 from rfl] at hx111_0)
            (try rw [Addr.add_zero'] at hx111_0)
            replace p111:=eq_true p111
            replace q111:=eq_true q111
            go_wp2
            go_ret
            exact ⟨_,by first|rfl|(simp [cG,cI] <;> rfl)|(simp only [← hji4,← hji6];first|rfl|(simp [cG,cI] <;> rfl))|(simp [*,cG,cI] <;> rfl),bN HO_3,aX HB⟩
           ·have c34b0:(x8_3==(rd y108 0))=false:=beq_eq_false_iff_ne.mpr c34
            have c34b1:(x8_3 != (rd y108 0))=true:=bne_iff_ne.mpr c34
            rcases eV H with ⟨c37b0,H⟩|⟨c37b0,H⟩
            ·obtain rfl:=Option.some.inj H
             have hcz38_0:=aW BK101 0
             have hcz38_1:=aW BK101 1
             have hfz38_0:=aA BK101.out 0
             have hfz38_1:=aA BK101.out 1
             obtain ⟨Ao39,co39,eo39⟩:=Kd.R_slice HO_3.out
             subst eo39
             have p111:0≤(0:Int):=(by omega)
             have q111:0<(y108.length:Int):=bI
             obtain ⟨ad111,e111,hx111_0⟩:=Kd.at_int (Kd.R_reads' HO_3.out).2.2 0 p111 q111
             cases e111
             have qi111:(0<y108.length)=True:=eq_true (by omega)
             (try rw [show ((0:Int)).toNat=0 from rfl] at hx111_0)
             (try rw [Addr.add_zero'] at hx111_0)
             replace p111:=eq_true p111
             replace q111:=eq_true q111
             go_wp2
             go_ret
             exact ⟨_,by first|rfl|(simp [cG,cI] <;> rfl)|(simp only [← hji4,← hji6];first|rfl|(simp [cG,cI] <;> rfl))|(simp [*,cG,cI] <;> rfl),bN HO_3,aX HB⟩
            ·have H':=aE H
             clear H
             have hcz40_0:=aW BK101 0
             have hcz40_1:=aW BK101 1
             have hfz40_0:=aA BK101.out 0
             have hfz40_1:=aA BK101.out 1
             obtain ⟨Ao41,co41,eo41⟩:=Kd.R_slice HO_3.out
             subst eo41
             have p111:0≤(0:Int):=(by omega)
             have q111:0<(y108.length:Int):=bI
             obtain ⟨ad111,e111,hx111_0⟩:=Kd.at_int (Kd.R_reads' HO_3.out).2.2 0 p111 q111
             cases e111
             have qi111:(0<y108.length)=True:=eq_true (by omega)
             (try rw [show ((0:Int)).toNat=0 from rfl] at hx111_0)
             (try rw [Addr.add_zero'] at hx111_0)
             replace p111:=eq_true p111
             replace q111:=eq_true q111
             go_wp2
             go_roundg k3
             case measure=>have:=HK1.out;have:=HK2.out;have:=HK3.out;omega
             case rel=>exact ⟨(y108),(x8_3),(wrap64 (x7_2+1)),aH,aH,H',⟨by have:=HK1.out;have:=HK2.out;have:=HK3.out;omega⟩,⟨bN HO_3⟩,⟨fO BK101⟩,⟨aX HB⟩⟩
       ·obtain rfl:=Option.some.inj H
        have hcz42_0:=aW BK101 0
        have hcz42_1:=aW BK101 1
        have hfz42_0:=aA BK101.out 0
        have hfz42_1:=aA BK101.out 1
        go_wp2
        go_ret
        exact ⟨_,by first|rfl|(simp [cG,cI] <;> rfl)|(simp only [← hji4,← hji6];first|rfl|(simp [cG,cI] <;> rfl))|(simp [*,cG,cI] <;> rfl),bN HO_3,aX HB⟩
    ·replace c16:=Bool.eq_false_iff.mpr c16
     subst c16
     rw [if_neg (show ¬ (false=true) by decide)] at H
     have H':=aE H
     clear H
     go_wp2_with (first|((with_reducible refine aJ (f:=75) rfl ?_);refine aV (some 25) Tryz.func75 #[.int .i64 t106,.int .i64 x6_1] ?_;(with_reducible refine (bM t106 x6_1 false _ A15.out).mono ?_);rintro e w' ⟨rfl,⟨nd,rfl⟩⟩;refine ⟨_,rfl,?_⟩))
     go_roundg k1
     case measure=>have:=HK1.out;omega
     case rel=>exact ⟨(wrap64 (x6_1+1)),aH,H',⟨by have:=HK1.out;omega⟩,⟨bN HO_3⟩,⟨fO BK101⟩,⟨aX HB⟩⟩
 ·replace c3:=Bool.eq_false_iff.mpr c3
  subst c3
  rw [if_neg (show ¬ (false=true) by decide)] at H
  obtain rfl:=Option.some.inj H
  go_enter Tryz.func54,Tryz.ntmps54
  go_wp2_with (first|((with_reducible refine aN (N:=1) rfl ?_);refine bV (N:=1) #[.int .i64 a0_0,.string a0_1] 41 ?_;intro gb101 hg w43 hbox hb;have BK101:=aE (hbox);have GW101:=aE ((dX HB hg));have GE101:=aE ((dX HB hg));replace HB:=aE (aD (aX HB) hb);clear hb hbox hg)|((with_reducible refine aN (N:=10) rfl ?_);refine Kd.R_lit (Kd.int .i64) _ 3 ?hg (N:=10) ?hd (xs:=([]:List Int)) (inner:=[]) (ok:=fun _=>True) (okp:=fun _=>True) ?hr ?hp (fun _ hk=>hk) trivial (Below.refl _ _) (Nat.le_refl _) (by simp) ?_;(case hd=>rfl);(case hg=>rfl);(case hr=>first|(go_simp;done)|(go_simp;rfl));(case hp=>exact (kC.none _ _));intro v103 w44 ho45 hb hg_ hnew_;clear hg_ hnew_;(first|rw [← Ny102.out] at ho45|(simp only [Int.reduceToNat] at ho45;rw [← Ny102.out] at ho45));have HO104:=aE (Kd.R_lower ho45 (aT (aX HB)));replace BK101:=aE (bB BK101 hb);replace HB:=aE (aD (aX HB) hb);clear hb ho45;have hcz46_0:=aW BK101 0;have hcz46_1:=aW BK101 1;have hfz46_0:=aA BK101.out 0;have hfz46_1:=aA BK101.out 1)|((with_reducible refine aJ (f:=56) rfl ?_);refine aV (some 12) Tryz.func56 #[.agg #[.int .i64 a0_0,.string a0_1]] ?_;(with_reducible refine (gE k a0_0 a0_1 false _ A2.out).mono ?_);rintro e w47 ⟨rfl,hb⟩;refine ⟨_,rfl,?_⟩;replace HO104:=aE (Kd.R_below (bN HO104) hb);replace BK101:=aE (bB BK101 hb);replace HB:=aE (aD (aX HB) hb);(try clear hb);(try clear hk)))
  go_ret
  exact ⟨_,bP,bN HO104,aX HB⟩
/-! ### spec_l28Hull: function 41 -/
def gO:Nat→List (cF)→List (cF)→List Int→Int→Option ((List (cF)))
 | 0,_,_,_,_=>none
 | k+1,x0,x3,x6,x7=>if x7<(x6.length:Int) then (if 0≤x7 then (if 0≤(rd x6 x7) then (if (rd x6 x7)<(x0.length:Int) then (if x3.length<8796093022208 then (gO k x0 (x3++[(⟨(aC x0 (rd x6 x7)).f0,(aC x0 (rd x6 x7)).f1⟩:cF)]) x6 (wrap64 (x7+1))) else (none)) else (none)) else (none)) else (none)) else (some x3)
def spec_l28Hull.f (k:Nat) (l0:List (cF)):Option ((List (cF))):=(spec_SignsOf.f k l0).bind fun bt104=>((spec_HullOf.f k bt104.1 bt104.2.1).bind fun t108=>(gO k l0 (([]:List (cF))) t108 0))
set_option maxHeartbeats 8000000 in
set_option maxRecDepth 100000 in
theorem mE (k:Nat) (A0:Option Addr) (c0:Nat) (l0:List (cF)) (r:List (cF)) (w:World) (hr0:Kd.C jW w A0 l0.length l0) (hc0:l0.length≤c0) (h:spec_l28Hull.f k l0=some r) :
  Calls Tryz.prog 41 #[.slice A0 l0.length c0] w fun e w'=>∃ v0_:Value,e=.returned (v0_)∧Kd.R jW 28 w' w.heap.size (fun _=>True) v0_ r∧Below w.heap.size w w':=by
 have hu41:=Tryz.underlying41
 have hu28:=Tryz.underlying28
 have HR0:=aE hr0
 have HC0:=aE hc0
 clear hr0 hc0
 have HB:=aE (Below.refl w.heap.size w)
 unfold spec_l28Hull.f at h
 have H:=h
 clear h
 obtain ⟨y101,hy101⟩:∃ y_:List (cF),y_=(([]:List (cF))):=⟨_,rfl⟩
 first|(with_reducible replace H:=oO hy101 H)|(with_reducible replace H:=oP hy101 H)|rw [← hy101] at H
 have Ny101:=aE hy101
 clear hy101
 replace H:=eM H
 obtain ⟨⟨t104,t105,t106⟩,A2,H⟩:=H
 try dsimp only at H
 replace H:=eM H
 obtain ⟨t108,A3,H⟩:=H
 have H':=aE H
 clear H
 go_enter Tryz.func41,Tryz.ntmps41
 go_wp2_with (first|((with_reducible refine aN (N:=8) rfl ?_);refine Kd.R_lit jW _ 28 ?hg (N:=8) ?hd (xs:=([]:List (cF))) (inner:=[]) (ok:=fun _=>True) (okp:=fun _=>True) ?hr ?hp (fun _ hk=>hk) trivial (Below.refl _ _) (Nat.le_refl _) (by simp) ?_;(case hd=>rfl);(case hg=>rfl);(case hr=>first|(go_simp;done)|(go_simp;rfl));(case hp=>exact (kC.none _ _));intro v102 w4 ho5 hb hg_ hnew_;clear hg_ hnew_;(first|rw [← Ny101.out] at ho5|(simp only [Int.reduceToNat] at ho5;rw [← Ny101.out] at ho5));have HO103:=aE (Kd.R_lower ho5 (aT (aX HB)));replace HB:=aE (aD (aX HB) hb);clear hb ho5)|((with_reducible refine aJ (f:=25) rfl ?_);refine aV (some 11) Tryz.func25 #[.slice A0 l0.length c0] ?_;(with_reducible refine (kV k _ _ l0 t104 t105 t106 _ ?side1 ?side2 A2.out).mono ?_);(case side1=>exact kJ (Kd.C_below HR0.out HB.out));(case side2=>exact HC0.out);rintro e w6 ⟨rfl,hb⟩;refine ⟨_,rfl,?_⟩;replace HO103:=aE (Kd.R_below (bN HO103) hb);replace HB:=aE (aD (aX HB) hb);(try clear hb);(try clear hk))|((with_reducible refine aN (N:=4) rfl ?_);refine bV (N:=4) #[.int .i64 0,.string (⟨#[]⟩:ByteArray)] 41 ?_;intro gb107 hg w7 hbox hb;replace HO103:=aE (Kd.R_below (bN HO103) hb);have BK107:=aE (hbox);have GW107:=aE ((dX HB hg));have GE107:=aE ((dX HB hg));replace HB:=aE (aD (aX HB) hb);clear hb hbox hg;have hcz8_0:=aW BK107 0;have hcz8_1:=aW BK107 1;have hfz8_0:=aA BK107.out 0;have hfz8_1:=aA BK107.out 1)|((with_reducible refine aJ (f:=54) rfl ?_);refine aV (some 15) Tryz.func54 #[.agg #[.int .i64 t104,.string t105]] ?_;(with_reducible refine (rJ k t104 t105 t108 _ A3.out).mono ?_);rintro e w9 ⟨v109,rfl,ho0,hb⟩;refine ⟨_,rfl,?_⟩;replace HO103:=aE (Kd.R_below (by (with_reducible repeat (first|apply kD|apply kE|apply gU));exact (Kd.R_mono (Kd.R_far (p:=⟨gb107,1,none⟩) (Kd.R_far (p:=⟨gb107,0,none⟩) (Kd.R_types HO103.out BK107.out (by decide)) (fun _ hk=>hk.2) (.int .i64 t104)) (fun _ hk=>hk.2) (.string t105)) (fun _ h_=>h_.1))) hb);have HO110:=aE (Kd.R_lower ho0 (aT (aX HB)));replace BK107:=aE (aZ (g:=gb107) (o:=.cells #[.int .i64 t104,.string t105] 41 (0,0)) (jR BK107) hb);replace HB:=aE (aD (aX HB) hb);(try clear hb);(try clear hk);(try clear ho0)))
 go_loopg [3,7] k (fun kq v3 v7 w'=>∃ (x3_1:List (cF)) (x7_1:Int),v7=.int .i64 x7_1∧Aside0 (gO kq l0 x3_1 t108 x7_1=some r)∧Aside0 (kq≤k)∧Aside0 (Kd.R jW 28 w' w.heap.size (fun _=>True) v3 x3_1)∧Aside0 (Kd.R (Kd.int .i64) 3 w' w.heap.size (fun _=>True) v109 t108)∧Aside0 (w'.heap[gb107]? = some (.cells #[.int .i64 t104,.string t105] 41 (0,0)))∧Aside0 (Below w.heap.size w w'))
 case atStart=>exact ⟨(y101),(0),aH,H',⟨Nat.le_refl _⟩,⟨bN HO103⟩,⟨bN HO110⟩,⟨fO BK107⟩,⟨aX HB⟩⟩
 case round =>
  clear H'
  try clear hcz8_0
  try clear hcz8_1
  try clear hfz8_0
  try clear hfz8_1
  obtain ⟨x3_1,x7_1,rfl,HA,HK1,HO_3,HO_6,BK107,HB⟩:=hrel
  cases gk with
  | zero=>exact absurd HA.out (by simp [gO])
  | succ k1 =>
   have H:=HA.out
   clear HA
   simp only [gO] at H
   rcases eV H with ⟨c10b0,H⟩|⟨c10b0,H⟩
   ·obtain ⟨c11b0,H⟩:=cV H
    obtain ⟨c12b0,H⟩:=cV H
    obtain ⟨c13b0,H⟩:=cV H
    obtain ⟨c14,H⟩:=gQ H
    have LMc14:=aE c14
    clear c14
    obtain ⟨y113,hy113⟩:∃ y_:List (cF),y_=(x3_1++[(⟨(aC l0 (rd t108 x7_1)).f0,(aC l0 (rd t108 x7_1)).f1⟩:cF)]):=⟨_,rfl⟩
    first|(with_reducible replace H:=oO hy113 H)|(with_reducible replace H:=oP hy113 H)|rw [← hy113] at H
    have Ny113:=aE hy113
    clear hy113
    have H':=aE H
    clear H
    obtain ⟨Ao15,co15,eo15⟩:=Kd.R_slice HO_6.out
    subst eo15
    obtain ⟨p111,q111,ad111,e111,hx111_0⟩:=jP (Kd.at_int (Kd.R_reads' HO_6.out).2.2 x7_1)
    cases e111
    have p112:0≤((rd t108 x7_1):Int):=bI
    have q112:(rd t108 x7_1)<(l0.length:Int):=bI
    obtain ⟨ad112,e112,hx112_0,hx112_1⟩:=bW HR0.out (rd t108 x7_1) p112 q112
    cases e112
    replace hx112_0:=aY HB hx112_0
    replace hx112_1:=aY HB hx112_1
    replace p112:=eq_true p112
    replace q112:=eq_true q112
    go_wp2_with (first|((with_reducible refine cT (b:=.append) (xs:=#[.tmp 22,.tmp 30]) rfl ?_);at_builtin;refine Kd.R_append jW (w0:=w) w.heap.size rfl (.tmp 22) (.tmp 30) 24 28 (.agg #[(.int .i64 0),(.int .i64 0)]) 16 rfl Tryz.underlying24 IA rfl (by decide) (by omega) u3 x3_1 (⟨(aC l0 (rd t108 x7_1)).f0,(aC l0 (rd t108 x7_1)).f1⟩:cF) [.int .i64 ((aC l0 (rd t108 x7_1)).f0),.int .i64 ((aC l0 (rd t108 x7_1)).f1)] (fun _=>True) (fun _=>False) rfl rfl ?aP (fun _ hk=>hk.elim) ?aF ?aO ?aB ?aS ?aL ?_;(case aP=>exact jO _ _ _ (⟨(aC l0 (rd t108 x7_1)).f0,(aC l0 (rd t108 x7_1)).f1⟩:cF));(case aB=>exact (aX HB));(case aF=>exact (fun _ _=>trivial));(case aO=>exact (bN HO_3));(case aS=>exact (aT (aX HB)));(case aL=>have:=LMc14.out;omega);intro v114 w16 ho hb hg hat;rw [← Ny113.out] at ho;replace HO_6:=aE (Kd.R_over' (bN HO_6) (Kd.R_typed (bN HO_3)) (by decide) hg);replace BK107:=aE (kL (g:=gb107) (o:=.cells #[.int .i64 t104,.string t105] 41 (0,0)) (fO BK107) hg (Kd.R_ne HO_3.out BK107.out (by decide)));replace HB:=aE (hb);have HO115:=aE (ho);clear HO_3;clear ho hb hg hat))
    go_roundg k1
    case measure=>have:=HK1.out;omega
    case rel=>exact ⟨(y113),(wrap64 (x7_1+1)),aH,H',⟨by have:=HK1.out;omega⟩,⟨bN HO115⟩,⟨bN HO_6⟩,⟨fO BK107⟩,⟨aX HB⟩⟩
   ·obtain rfl:=Option.some.inj H
    obtain ⟨Ao17,co17,eo17⟩:=Kd.R_slice HO_6.out
    subst eo17
    go_wp2
    go_ret
    exact ⟨_,bP,bN HO_3,aX HB⟩
/-! ### spec_l1Min: function 69 -/
def spec_l1Min.f (a0:Int) (a1:Int):Option (Int):=if a0<a1 then (some a0) else (some a1)
set_option maxHeartbeats 8000000 in
set_option maxRecDepth 100000 in
theorem sJ (a0:Int) (a1:Int) (r:Int) (w:World) (h:spec_l1Min.f a0 a1=some r) :
  Calls Tryz.prog 69 #[.int .i64 a0,.int .i64 a1] w fun e w'=>e=.returned (.int .i64 r)∧gH w w':=by
 unfold spec_l1Min.f at h
 have H:=h
 clear h
 rcases eV H with ⟨c3b0,H⟩|⟨c3b0,H⟩
 ·obtain rfl:=Option.some.inj H
  go_enter Tryz.func69,Tryz.ntmps69
  go_wp2
  go_ret
  exact ⟨aH,by repeat (first|exact gH.refl _|apply bF)⟩
 ·obtain rfl:=Option.some.inj H
  go_enter Tryz.func69,Tryz.ntmps69
  go_wp2
  go_ret
  exact ⟨aH,by repeat (first|exact gH.refl _|apply bF)⟩
end Go.Proofs.YteaagaekdkolnaaGreat.P

