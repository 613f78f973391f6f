/- A part of the proof of FnIncidences: printed contracts and plain laws, joined by a program of this session. -/
import Derived.Test.YtldcckcljjlglaaZFnIncidences5
namespace Go.Proofs.Ytldcckcljjlglaa.P
open Go.RowKit Go.Proofs.YtldcckcljjlglaaW.PrintWords Go.Proofs.YtldcckcljjlglaaW.PrintLast Go.Proofs.YtldcckcljjlglaaW.PrintMore
attribute [local go_sem] max2_int min2_int max_two min_two max_three min_three max_four min_four
set_option linter.unusedVariables false
set_option linter.unusedSimpArgs false
attribute [local go_sem high] eqA72
/-! ### laws_FnIncidences: function 14 -/
mutual
def bR:Nat→List (eV)→Bool→List (dB)→List (eV)→Bool→Bool→Int→Int→Int→Int→Int→Int→Int→Int→Int→Int→Int→Int→Int→Int→Int→Int→Int→Int→Option (Bool)
 | 0,_,_,_,_,_,_,_,_,_,_,_,_,_,_,_,_,_,_,_,_,_,_,_,_=>none
 | k+1,x10,x11,x14,x15,x16,x118,x109000,x109001,x109002,x110000,x110001,x110002,x114000,x114001,x114002,x124000,x124001,x124002,x125000,x125001,x125002,x126000,x126001,x126002=>if x118=true then (some false) else ((impl_CrossOf.f k x110000 x110001 x110002 x109000 x109001 x109002).bind fun bt166=>(if bt166.1=(wrap64 (-x114000)) then (if bt166.2.1=(wrap64 (-x114001)) then (if bt166.2.2=(wrap64 (-x114002)) then (if (wrap64 ((wrap64 ((wrap64 (x109000*x114000))+(wrap64 (x109001*x114001))))+(wrap64 (x109002*x114002))))=0 then ((impl_AreOnOne.f x124000 x124001 x124002 x125000 x125001 x125002 x126000 x126001 x126002).bind fun t170=>((impl_AreOnOne.f x126000 x126001 x126002 x124000 x124001 x124002 x125000 x125001 x125002).bind fun t171=>(cQ k x10 x11 x14 x15 x16 (t170 != t171)))) else (cQ k x10 x11 x14 x15 x16 true)) else (cQ k x10 x11 x14 x15 x16 true)) else (cQ k x10 x11 x14 x15 x16 true)) else (cQ k x10 x11 x14 x15 x16 true)))
def cQ:Nat→List (eV)→Bool→List (dB)→List (eV)→Bool→Bool→Option (Bool)
 | 0,_,_,_,_,_,_=>none
 | k+1,x10,x11,x14,x15,x16,x174=>if x174=true then (some false) else (if x11=true then (if (x10.length:Int)=3 then (if 0<(x10.length:Int) then (if 1<(x10.length:Int) then (if 2<(x10.length:Int) then ((impl_AreOnOne.f ((aI x10 0).f0) ((aI x10 0).f1) ((aI x10 0).f2) ((aI x10 1).f0) ((aI x10 1).f1) ((aI x10 1).f2) ((aI x10 2).f0) ((aI x10 2).f1) ((aI x10 2).f2)).bind fun t175=>(dC k x14 x15 x16 (!t175))) else (none)) else (none)) else (none)) else (dC k x14 x15 x16 true)) else (dC k x14 x15 x16 false))
def dC:Nat→List (dB)→List (eV)→Bool→Bool→Option (Bool)
 | 0,_,_,_,_=>none
 | k+1,x14,x15,x16,x193=>if x193=true then (some false) else (if x16=true then (if 0<(x14.length:Int) then ((spec_TripleOf.f ((aA x14 0).f0) ((aA x14 0).f1)).bind fun bt178=>(if 3<(x14.length:Int) then ((spec_TripleOf.f ((aA x14 3).f0) ((aA x14 3).f1)).bind fun bt182=>((spec_CrossOf.f k bt178.1 bt178.2.1 bt178.2.2 bt182.1 bt182.2.1 bt182.2.2).bind fun bt185=>(if 1<(x14.length:Int) then ((spec_TripleOf.f ((aA x14 1).f0) ((aA x14 1).f1)).bind fun bt190=>(if 4<(x14.length:Int) then ((spec_TripleOf.f ((aA x14 4).f0) ((aA x14 4).f1)).bind fun bt194=>((spec_CrossOf.f k bt190.1 bt190.2.1 bt190.2.2 bt194.1 bt194.2.1 bt194.2.2).bind fun bt197=>(if 2<(x14.length:Int) then ((spec_TripleOf.f ((aA x14 2).f0) ((aA x14 2).f1)).bind fun bt202=>(if 5<(x14.length:Int) then ((spec_TripleOf.f ((aA x14 5).f0) ((aA x14 5).f1)).bind fun bt206=>((spec_CrossOf.f k bt202.1 bt202.2.1 bt202.2.2 bt206.1 bt206.2.1 bt206.2.2).bind fun bt209=>((spec_CrossOf.f k bt185.1 bt185.2.1 bt185.2.2 bt197.1 bt197.2.1 bt197.2.2).bind fun bt214=>(if (bt214.1==0&&(bt214.2.1==0&&(bt214.2.2==0)))=true then (dS k x14 x15 true) else ((spec_CrossOf.f k bt185.1 bt185.2.1 bt185.2.2 bt209.1 bt209.2.1 bt209.2.2).bind fun bt217=>(if (bt217.1==0&&(bt217.2.1==0&&(bt217.2.2==0)))=true then (dS k x14 x15 true) else ((spec_CrossOf.f k bt197.1 bt197.2.1 bt197.2.2 bt209.1 bt209.2.1 bt209.2.2).bind fun bt220=>(dS k x14 x15 (bt220.1==0&&(bt220.2.1==0&&(bt220.2.2==0))))))))))) else (none))) else (none)))) else (none))) else (none)))) else (none))) else (none)) else ((impl_ArePerspective.f k x14).bind fun t176=>(some (!t176))))
def dS:Nat→List (dB)→List (eV)→Bool→Option (Bool)
 | 0,_,_,_=>none
 | k+1,x14,x15,x245=>if x245=true then ((impl_ArePerspective.f k x14).bind fun t223=>(some (!t223))) else (if 0<(x15.length:Int) then (if 1<(x15.length:Int) then (if 2<(x15.length:Int) then ((impl_AreOnOne.f ((aI x15 0).f0) ((aI x15 0).f1) ((aI x15 0).f2) ((aI x15 1).f0) ((aI x15 1).f1) ((aI x15 1).f2) ((aI x15 2).f0) ((aI x15 2).f1) ((aI x15 2).f2)).bind fun t227=>((impl_ArePerspective.f k x14).bind fun t228=>(some (t227==t228)))) else (none)) else (none)) else (none))
end
def laws_FnIncidences.f (k:Nat) (l0:List Int):Option (Bool):=(laws_big.f l0).bind fun t101=>(if t101=true then (some true) else ((spec_DrawCrossOf.f k l0).bind fun bt102=>((impl_CrossOf.f k bt102.1 bt102.2.1 bt102.2.2.1 bt102.2.2.2.1 bt102.2.2.2.2.1 bt102.2.2.2.2.2).bind fun bt110=>((spec_DrawAreOnOne.f k l0).bind fun bt114=>((spec_DrawPappusOf.f k l0).bind fun t126=>((impl_PappusOf.f k t126).bind fun bt129=>((spec_PappusOf.f k t126).bind fun bt133=>((spec_DrawDesarguesOf.f k l0).bind fun t137=>((impl_DesarguesOf.f k t137).bind fun bt140=>((spec_DesarguesOf.f k t137).bind fun bt144=>((spec_DrawTripleOf.f k l0).bind fun bt148=>((spec_CrossOf.f k bt102.1 bt102.2.1 bt102.2.2.1 bt102.2.2.2.1 bt102.2.2.2.2.1 bt102.2.2.2.2.2).bind fun bt151=>(if (!(bt110.1==bt151.1)||(!(bt110.2.1==bt151.2.1)||(!(bt110.2.2==bt151.2.2))))=true then (bR k bt129.1 bt129.2 t137 bt140.1 bt140.2 true bt102.1 bt102.2.1 bt102.2.2.1 bt102.2.2.2.1 bt102.2.2.2.2.1 bt102.2.2.2.2.2 bt110.1 bt110.2.1 bt110.2.2 bt114.1 bt114.2.1 bt114.2.2.1 bt114.2.2.2.1 bt114.2.2.2.2.1 bt114.2.2.2.2.2.1 bt114.2.2.2.2.2.2.1 bt114.2.2.2.2.2.2.2.1 bt114.2.2.2.2.2.2.2.2) else ((impl_AreOnOne.f bt114.1 bt114.2.1 bt114.2.2.1 bt114.2.2.2.1 bt114.2.2.2.2.1 bt114.2.2.2.2.2.1 bt114.2.2.2.2.2.2.1 bt114.2.2.2.2.2.2.2.1 bt114.2.2.2.2.2.2.2.2).bind fun t154=>((spec_AreOnOne.f bt114.1 bt114.2.1 bt114.2.2.1 bt114.2.2.2.1 bt114.2.2.2.2.1 bt114.2.2.2.2.2.1 bt114.2.2.2.2.2.2.1 bt114.2.2.2.2.2.2.2.1 bt114.2.2.2.2.2.2.2.2).bind fun t155=>(if (t154 != t155)=true then (bR k bt129.1 bt129.2 t137 bt140.1 bt140.2 true bt102.1 bt102.2.1 bt102.2.2.1 bt102.2.2.2.1 bt102.2.2.2.2.1 bt102.2.2.2.2.2 bt110.1 bt110.2.1 bt110.2.2 bt114.1 bt114.2.1 bt114.2.2.1 bt114.2.2.2.1 bt114.2.2.2.2.1 bt114.2.2.2.2.2.1 bt114.2.2.2.2.2.2.1 bt114.2.2.2.2.2.2.2.1 bt114.2.2.2.2.2.2.2.2) else (if (bt129.2 != bt133.2)=true then (bR k bt129.1 bt129.2 t137 bt140.1 bt140.2 true bt102.1 bt102.2.1 bt102.2.2.1 bt102.2.2.2.1 bt102.2.2.2.2.1 bt102.2.2.2.2.2 bt110.1 bt110.2.1 bt110.2.2 bt114.1 bt114.2.1 bt114.2.2.1 bt114.2.2.2.1 bt114.2.2.2.2.1 bt114.2.2.2.2.2.1 bt114.2.2.2.2.2.2.1 bt114.2.2.2.2.2.2.2.1 bt114.2.2.2.2.2.2.2.2) else ((laws_sameTriples.f k bt129.1 bt133.1).bind fun t156=>(if t156=true then (if (bt140.2 != bt144.2)=true then (bR k bt129.1 bt129.2 t137 bt140.1 bt140.2 true bt102.1 bt102.2.1 bt102.2.2.1 bt102.2.2.2.1 bt102.2.2.2.2.1 bt102.2.2.2.2.2 bt110.1 bt110.2.1 bt110.2.2 bt114.1 bt114.2.1 bt114.2.2.1 bt114.2.2.2.1 bt114.2.2.2.2.1 bt114.2.2.2.2.2.1 bt114.2.2.2.2.2.2.1 bt114.2.2.2.2.2.2.2.1 bt114.2.2.2.2.2.2.2.2) else ((laws_sameTriples.f k bt140.1 bt144.1).bind fun t157=>(if t157=true then ((impl_ArePerspective.f k t137).bind fun t158=>((spec_ArePerspective.f k t137).bind fun t159=>(if (t158 != t159)=true then (bR k bt129.1 bt129.2 t137 bt140.1 bt140.2 true bt102.1 bt102.2.1 bt102.2.2.1 bt102.2.2.2.1 bt102.2.2.2.2.1 bt102.2.2.2.2.2 bt110.1 bt110.2.1 bt110.2.2 bt114.1 bt114.2.1 bt114.2.2.1 bt114.2.2.2.1 bt114.2.2.2.2.1 bt114.2.2.2.2.2.1 bt114.2.2.2.2.2.2.1 bt114.2.2.2.2.2.2.2.1 bt114.2.2.2.2.2.2.2.2) else ((impl_TripleOf.f bt148.1 bt148.2).bind fun bt160=>((spec_TripleOf.f bt148.1 bt148.2).bind fun bt163=>(bR k bt129.1 bt129.2 t137 bt140.1 bt140.2 (!(bt160.1==bt163.1)||(!(bt160.2.1==bt163.2.1)||(!(bt160.2.2==bt163.2.2)))) bt102.1 bt102.2.1 bt102.2.2.1 bt102.2.2.2.1 bt102.2.2.2.2.1 bt102.2.2.2.2.2 bt110.1 bt110.2.1 bt110.2.2 bt114.1 bt114.2.1 bt114.2.2.1 bt114.2.2.2.1 bt114.2.2.2.2.1 bt114.2.2.2.2.2.1 bt114.2.2.2.2.2.2.1 bt114.2.2.2.2.2.2.2.1 bt114.2.2.2.2.2.2.2.2)))))) else (bR k bt129.1 bt129.2 t137 bt140.1 bt140.2 true bt102.1 bt102.2.1 bt102.2.2.1 bt102.2.2.2.1 bt102.2.2.2.2.1 bt102.2.2.2.2.2 bt110.1 bt110.2.1 bt110.2.2 bt114.1 bt114.2.1 bt114.2.2.1 bt114.2.2.2.1 bt114.2.2.2.2.1 bt114.2.2.2.2.2.1 bt114.2.2.2.2.2.2.1 bt114.2.2.2.2.2.2.2.1 bt114.2.2.2.2.2.2.2.2)))) else (bR k bt129.1 bt129.2 t137 bt140.1 bt140.2 true bt102.1 bt102.2.1 bt102.2.2.1 bt102.2.2.2.1 bt102.2.2.2.2.1 bt102.2.2.2.2.2 bt110.1 bt110.2.1 bt110.2.2 bt114.1 bt114.2.1 bt114.2.2.1 bt114.2.2.2.1 bt114.2.2.2.2.1 bt114.2.2.2.2.2.1 bt114.2.2.2.2.2.2.1 bt114.2.2.2.2.2.2.2.1 bt114.2.2.2.2.2.2.2.2))))))))))))))))))))
def jK:Bool×List (List Nat×List Nat):=(true,[([],[]),([],[]),([],[]),([1,2],[1,2]),([0,3],[0,3]),([4,3],[4]),([5],[5]),([5],[5]),([5],[5]),([6,7,8,5,5],[5,6,7,8]),([5],[5]),([5],[5]),([5],[5]),([10,11,12,9,5],[5,10,11,12]),([9,13,5],[5,9,13]),([5,14],[5,14]),([15,13],[15]),([16],[16]),([16],[16]),([17,18,16],[16,17,18]),([16,19],[16,19]),([20,16],[20]),([21],[21]),([21],[21]),([22,23,21,21],[21,22,23]),([24,21],[21,24]),([21,25],[21,25]),([26,24],[26]),([27],[27]),([27],[27]),([28,29,27],[27,28,29]),([27,30],[27,30]),([31,27],[31]),([32],[32]),([32],[32]),([33,34,32,32],[32,33,34]),([35,32],[32,35]),([32,36],[32,36]),([37,35],[37]),([38],[38]),([39,38,38],[38,39]),([38],[38]),([41,40,38],[38,41]),([40,42,38],[38,40,42]),([38,43],[38,43]),([44,42],[44]),([45],[45]),([46,45,45],[45,46]),([45],[45]),([48,47,45],[45,48]),([47,49,45],[45,47,49]),([45,50],[45,50])])
def oA:List Nat:=[0,0,0,6,15,31,63,63,63,511,63,63,63,8191,16383,32767,65535,131071,131071,524287,1048575,2097151,4194303,4194303,16777215,33554431,67108863,134217727,268435455,268435455,1073741823,2147483647,4294967295,8589934591,8589934591,34359738367,68719476735,137438953471,274877906943,549755813887,1099511627775,549755813887,4398046511103,8796093022207,17592186044415,35184372088831,70368744177663,140737488355327,70368744177663,562949953421311,1125899906842623,2251799813685247]
theorem mU:gK .any (iQ Try.f14 13)=jK:=by kernel_rfl
theorem lV:eU jK.2 oA=true:=by kernel_rfl
def jL:Bool×List (List Nat×List Nat):=(true,[([],[]),([0],[0]),([],[]),([2],[2]),([3],[3]),([1,4],[1,4]),([5],[5]),([6],[6]),([7,6],[6,7]),([6],[6]),([9,6],[6,9]),([10,6],[6,10]),([8,11,6],[6,8,11]),([6,12],[6,12]),([13,6],[13]),([14],[14]),([15,14],[14,15]),([14],[14]),([17,14],[14,17]),([18,14],[14,18]),([16,19,14],[14,16,19]),([14,20],[14,20]),([21,14],[21]),([22],[22]),([23,22],[22,23]),([22],[22]),([25,22],[22,25]),([24,26,22],[22,24,26]),([22],[22]),([28,22],[22,28]),([22],[22]),([30,22],[22,30]),([29,31,22],[22,29,31]),([27,32,22],[22,27,32]),([22],[22]),([34,22],[22,34]),([22],[22]),([36,22],[22,36]),([35,37,22],[22,35,37]),([33,38,22],[22,33,38]),([39,22],[22,39]),([22,40],[22,40]),([41,22],[41]),([42],[42]),([42],[42]),([42],[42]),([43,44,45,42,42],[42,43,44,45]),([42],[42]),([42],[42]),([42],[42]),([47,48,49,46,42],[42,47,48,49]),([46,50,42],[42,46,50]),([42,51],[42,51])])
def oB:List Nat:=[0,1,0,4,12,31,63,127,255,127,639,1663,4095,8191,16383,32767,65535,32767,163839,425983,1048575,2097151,4194303,8388607,16777215,8388607,41943039,134217727,8388607,276824063,8388607,1082130431,4034920447,8589934591,8388607,17188257791,8388607,68727865343,257706426367,549755813887,1099511627775,2199023255551,4398046511103,8796093022207,8796093022207,8796093022207,70368744177663,8796093022207,8796093022207,8796093022207,1125899906842623,2251799813685247,4503599627370495]
theorem mV:gK .any (iQ Try.f14 16)=jL:=by kernel_rfl
theorem lW:eU jL.2 oB=true:=by kernel_rfl
def jM:Bool×List (List Nat×List Nat):=(true,[([],[]),([0],[0]),([1],[1]),([2,1],[1,2]),([3,1],[1,3]),([4,1,1],[1,4]),([5],[5]),([6,5],[5,6]),([7,5],[5,7]),([5],[5]),([9,5],[5,9]),([10,5],[5,10]),([5],[5]),([12,5],[5,12]),([13,5],[5,13]),([8,11,14,5,5],[5,8,11,14]),([15,5],[5,15]),([5,16,1],[1,5,16]),([1,17],[1,17])])
def oC:List Nat:=[0,1,3,7,15,31,63,127,255,63,575,1599,63,4159,12351,32767,65535,131071,262143]
theorem jB:gK .any (iQ Try.f14 18)=jM:=by kernel_rfl
theorem iU:eU jM.2 oC=true:=by kernel_rfl
def jN:Bool×List (List Nat×List Nat):=(true,[([],[]),([0],[0]),([1],[1]),([2],[2]),([],[]),([4],[4]),([5],[5]),([6,3],[6]),([3,7,7],[3,7]),([],[]),([9,8,8,0,1,2,3,4,5,6,7,8,9],[8,9])])
def oD:List Nat:=[0,1,3,7,0,16,48,127,255,0,1023]
theorem mW:gK .any (iQ Try.f14 22)=jN:=by kernel_rfl
theorem lX:eU jN.2 oD=true:=by kernel_rfl
def jO:Bool×List (List Nat×List Nat):=(true,[([],[]),([0],[0]),([1],[1]),([2],[2]),([],[]),([4],[4]),([5],[5]),([6,3],[6]),([3,7,7],[3,7]),([],[]),([9,8,8,0,1,2,3,4,5,6,7,8,9],[8,9])])
def oE:List Nat:=[0,1,3,7,0,16,48,127,255,0,1023]
theorem mX:gK .any (iQ Try.f14 23)=jO:=by kernel_rfl
theorem lY:eU jO.2 oE=true:=by kernel_rfl
def jP:Bool×List (List Nat×List Nat):=(true,[([],[]),([0],[0]),([1],[1]),([2],[2]),([],[]),([4],[4]),([5],[5]),([6,3],[6]),([3,7,7],[3,7]),([],[]),([9,8,8,0,1,2,3,4,5,6,7,8,9],[8,9])])
def oF:List Nat:=[0,1,3,7,0,16,48,127,255,0,1023]
theorem mY:gK .any (iQ Try.f14 24)=jP:=by kernel_rfl
theorem lZ:eU jP.2 oF=true:=by kernel_rfl
def jQ:Bool×List (List Nat×List Nat):=(true,[([],[]),([],[]),([0,1],[0,1]),([],[]),([2,3],[2,3]),([4,2],[4]),([5],[5]),([5],[5]),([6,7,5,5],[5,6,7]),([5],[5]),([8,9,5],[5,8,9]),([5,10],[5,10]),([11,8],[11]),([12],[12]),([12],[12]),([13,14,12,12],[12,13,14]),([12],[12]),([15,16,12],[12,15,16]),([12,17],[12,17])])
def oG:List Nat:=[0,0,3,0,15,31,63,63,255,63,1023,2047,4095,8191,8191,32767,8191,131071,262143]
theorem gU:gK .any (iQ Try.f14 26)=jQ:=by kernel_rfl
theorem gO:eU jQ.2 oG=true:=by kernel_rfl
def jR:Bool×List (List Nat×List Nat):=(true,[([],[]),([0],[0]),([1],[1]),([],[]),([3],[3]),([4],[4]),([],[]),([6],[6]),([7],[7]),([2,5,8],[2,5,8]),([],[]),([10,9],[10]),([9,11],[9,11]),([12,11,0,1,2,3,4,5,6,7,8,9,10,11,12],[12])])
def oI:List Nat:=[0,1,3,0,8,24,0,64,192,511,0,2047,4095,8191]
theorem mZ:gK .any (iQ Try.f14 28)=jR:=by kernel_rfl
theorem lH:eU jR.2 oI=true:=by kernel_rfl
theorem dN:∀ k y0 y1 y2 y3 y4 y6 y7 y8 y9 y10 y11 y12 y13 y14 y15 y16 y17 y18 y19 y20 y21 y22 y23,bR k y0 y1 y2 y3 y4 true y6 y7 y8 y9 y10 y11 y12 y13 y14 y15 y16 y17 y18 y19 y20 y21 y22 y23≠some true:=by
 intro k
 intros
 cases k <;> simp [bR]
theorem fU:∀ k y0 y1 y2 y3 y4,cQ k y0 y1 y2 y3 y4 true≠some true:=by
 intro k
 intros
 cases k <;> simp [cQ]
theorem mH:∀ k y0 y1 y2,dC k y0 y1 y2 true≠some true:=by
 intro k
 intros
 cases k <;> simp [dC]
set_option maxHeartbeats 8000000 in
set_option maxRecDepth 100000 in
theorem nA (k : Nat) (A0 : Option Addr) (c0 : Nat) (l0 : List Int) (r : Bool) (w : World) (hr0 : Kd.C (Kd.int .u8) w A0 l0.length l0) (hc0 : l0.length ≤ c0) (h : laws_FnIncidences.f k l0 = some true) :
  Calls Try.prog 14 #[.slice A0 l0.length c0] w fun e w'=>e=.returned (.bool true)∧Below w.heap.size w w':=by
 have hu72:=Try.underlying72
 have hu80:=Try.underlying80
 have HR0:=aD hr0
 have HC0:=aD hc0
 clear hr0 hc0
 have HB:=aD (Below.refl w.heap.size w)
 unfold laws_FnIncidences.f at h
 have H:=h
 clear h
 replace H:=fQ H
 obtain ⟨t101,A2,H⟩:=H
 by_cases c3:t101=true
 ·subst c3
  have H1:(some true:Option Bool)=some true:=rfl
  clear H
  have H:=H1
  clear H1
  clear H
  go_enter Try.func14,Try.ntmps14
  go_wp2_with (first|((with_reducible refine aV (f:=34) rfl ?_);refine bK (some 26) Try.func34 #[.slice A0 l0.length c0] ?_;(with_reducible refine (oL _ _ l0 true _ ?side1 ?side2 A2.out).mono ?_);(case side1=>exact nK HR0.out);(case side2=>exact HC0.out);rintro e w' ⟨rfl,⟨nd,rfl⟩⟩;refine ⟨_,rfl,?_⟩))
  go_ret
  exact ⟨dA,bM HB⟩
 ·replace c3 := Bool.eq_false_iff.mpr c3
  subst c3
  rw [if_neg (show ¬ (false=true) by decide)] at H
  replace H:=fQ H
  obtain ⟨⟨t102,t103,t104,t105,t106,t107⟩,A4,H⟩:=H
  try dsimp only at H
  replace H:=fQ H
  obtain ⟨⟨t110,t111,t112⟩,A5,H⟩:=H
  try dsimp only at H
  replace H:=fQ H
  obtain ⟨⟨t114,t115,t116,t117,t118,t119,t120,t121,t122⟩,A6,H⟩:=H
  try dsimp only at H
  replace H:=fQ H
  obtain ⟨t126,A7,H⟩:=H
  replace H:=fQ H
  obtain ⟨⟨t129,t130⟩,A8,H⟩:=H
  try dsimp only at H
  replace H:=fQ H
  obtain ⟨⟨t133,t134⟩,A9,H⟩:=H
  try dsimp only at H
  replace H:=fQ H
  obtain ⟨t137,A10,H⟩:=H
  replace H:=fQ H
  obtain ⟨⟨t140,t141⟩,A11,H⟩:=H
  try dsimp only at H
  replace H:=fQ H
  obtain ⟨⟨t144,t145⟩,A12,H⟩:=H
  try dsimp only at H
  replace H:=fQ H
  obtain ⟨⟨t148,t149⟩,A13,H⟩:=H
  try dsimp only at H
  have HC14:=aD H
  clear H
  go_enter Try.func14,Try.ntmps14
  go_upto_region 13 with (first|((with_reducible refine aV (f:=34) rfl ?_);refine bK (some 26) Try.func34 #[.slice A0 l0.length c0] ?_;(with_reducible refine (oL _ _ l0 false _ ?side1 ?side2 A2.out).mono ?_);(case side1=>exact nK HR0.out);(case side2=>exact HC0.out);rintro e w' ⟨rfl,⟨nd,rfl⟩⟩;refine ⟨_,rfl,?_⟩)|((with_reducible refine aV (f:=76) rfl ?_);refine bK (some 29) Try.func76 #[.slice A0 l0.length c0] ?_;(with_reducible refine (nN k _ _ l0 t102 t103 t104 t105 t106 t107 _ ?side1 ?side2 A4.out).mono ?_);(case side1=>exact nK HR0.out);(case side2=>exact HC0.out);rintro e w15 ⟨rfl,hb⟩;refine ⟨_,rfl,?_⟩;replace HB:=aD (aE (bM HB) hb);(try clear hb);(try clear hk))|((with_reducible refine aW (N:=3) rfl ?_);(try (refine fG (by rfl) ?_;dsimp only));refine bS (N:=3) #[.int .i64 0,.int .i64 0,.int .i64 0] 72 ?_;intro gb108 hg w16 hbox hb;have BK108:=aD (hbox);have GW108:=aD ((cZ HB hg));have GE108:=aD ((cZ HB hg));replace HB:=aD (aE (bM HB) hb);clear hb hbox hg)|((with_reducible refine aW (N:=4) rfl ?_);(try (refine fG (by rfl) ?_;dsimp only));refine bS (N:=4) #[.int .i64 0,.int .i64 0,.int .i64 0] 72 ?_;intro gb109 hg w17 hbox hb;have BK109:=aD (hbox);have GW109:=aD ((cZ HB hg));have GE109:=aD ((cZ HB hg));replace HB:=aD (aE (bM HB) hb);have NB108_109:=aD ((bW BK108 hg));have NB109_108:=aD ((bX BK108 hg));replace BK108:=aD (aU BK108 hb);clear hb hbox hg;have hnb18:=NB108_109.out;have hnc18:=NB109_108.out;have hcz19_0:=aT BK108 0;have hcz19_1:=aT BK108 1;have hcz19_2:=aT BK108 2;have hfz19_0:=aC BK108.out 0;have hfz19_1:=aC BK108.out 1;have hfz19_2:=aC BK108.out 2;have hcz20_0:=aT BK109 0;have hcz20_1:=aT BK109 1;have hcz20_2:=aT BK109 2;have hfz20_0:=aC BK109.out 0;have hfz20_1:=aC BK109.out 1;have hfz20_2:=aC BK109.out 2)|((with_reducible refine aV (f:=77) rfl ?_);refine bK (some 34) Try.func77 #[.agg #[.int .i64 t102,.int .i64 t103,.int .i64 t104],.agg #[.int .i64 t105,.int .i64 t106,.int .i64 t107]] ?_;(with_reducible refine (eF k t102 t103 t104 t105 t106 t107 t110 t111 t112 _ A5.out).mono ?_);rintro e w21 ⟨rfl,hb⟩;refine ⟨_,rfl,?_⟩;replace BK108:=aD (bG (g:=gb108) (o:=.cells #[.int .i64 t102,.int .i64 t103,.int .i64 t104] 72 (0,0)) (eW BK108) hb);replace BK109:=aD (bG (g:=gb109) (o:=.cells #[.int .i64 t105,.int .i64 t106,.int .i64 t107] 72 (0,0)) (by (with_reducible repeat (first|refine aQ ?_ _|refine aK ?_|refine aN ?_ _));refine cJ (cs:=#[.int .i64 t105,.int .i64 t106,.int .i64 0]) ?_ 2 _ rfl;(with_reducible repeat (first|refine aQ ?_ _|refine aK ?_|refine aN ?_ _));refine cJ (cs:=#[.int .i64 t105,.int .i64 0,.int .i64 0]) ?_ 1 _ rfl;(with_reducible repeat (first|refine aQ ?_ _|refine aK ?_|refine aN ?_ _));refine cJ (cs:=#[.int .i64 0,.int .i64 0,.int .i64 0]) ?_ 0 _ rfl;(with_reducible repeat (first|refine aQ ?_ _|refine aK ?_|refine aN ?_ _));refine bD ?_ NB109_108.out _;(with_reducible repeat (first|refine aQ ?_ _|refine aK ?_|refine aN ?_ _));refine bD ?_ NB109_108.out _;(with_reducible repeat (first|refine aQ ?_ _|refine aK ?_|refine aN ?_ _));refine bD ?_ NB109_108.out _;(with_reducible repeat (first|refine aQ ?_ _|refine aK ?_|refine aN ?_ _));exact BK109.out) hb);replace HB:=aD (aE (bM HB) hb);(try clear hb);(try clear hk))|((with_reducible refine aW (N:=5) rfl ?_);(try (refine fG (by rfl) ?_;dsimp only));refine bS (N:=5) #[.int .i64 0,.int .i64 0,.int .i64 0] 72 ?_;intro gb113 hg w22 hbox hb;have BK113:=aD (hbox);have GW113:=aD ((cZ HB hg));have GE113:=aD ((cZ HB hg));replace HB:=aD (aE (bM HB) hb);have NB108_113:=aD ((bW BK108 hg));have NB113_108:=aD ((bX BK108 hg));replace BK108:=aD (aU BK108 hb);have NB109_113:=aD ((bW BK109 hg));have NB113_109:=aD ((bX BK109 hg));replace BK109:=aD (aU BK109 hb);clear hb hbox hg;have hnb23:=NB113_108.out;have hnc23:=NB108_113.out;have hnb24:=NB113_109.out;have hnc24:=NB109_113.out;have hcz25_0:=aT BK113 0;have hcz25_1:=aT BK113 1;have hcz25_2:=aT BK113 2;have hfz25_0:=aC BK113.out 0;have hfz25_1:=aC BK113.out 1;have hfz25_2:=aC BK113.out 2)|((with_reducible refine aV (f:=78) rfl ?_);refine bK (some 37) Try.func78 #[.slice A0 l0.length c0] ?_;(with_reducible refine (mM k _ _ l0 t114 t115 t116 t117 t118 t119 t120 t121 t122 _ ?side1 ?side2 A6.out).mono ?_);(case side1=>exact Kd.C_below HR0.out (bM HB));(case side2=>exact HC0.out);rintro e w26 ⟨rfl,hb⟩;refine ⟨_,rfl,?_⟩;replace BK108:=aD (bG (g:=gb108) (o:=.cells #[.int .i64 t102,.int .i64 t103,.int .i64 t104] 72 (0,0)) (eW BK108) hb);replace BK109:=aD (bG (g:=gb109) (o:=.cells #[.int .i64 t105,.int .i64 t106,.int .i64 t107] 72 (0,0)) (eW BK109) hb);replace BK113:=aD (bG (g:=gb113) (o:=.cells #[.int .i64 t110,.int .i64 t111,.int .i64 t112] 72 (0,0)) (eW BK113) hb);replace HB:=aD (aE (bM HB) hb);(try clear hb);(try clear hk))|((with_reducible refine aW (N:=6) rfl ?_);(try (refine fG (by rfl) ?_;dsimp only));refine bS (N:=6) #[.int .i64 0,.int .i64 0,.int .i64 0] 72 ?_;intro gb123 hg w27 hbox hb;have BK123:=aD (hbox);have GW123:=aD ((cZ HB hg));have GE123:=aD ((cZ HB hg));replace HB:=aD (aE (bM HB) hb);have NB108_123:=aD ((bW BK108 hg));have NB123_108:=aD ((bX BK108 hg));replace BK108:=aD (aU BK108 hb);have NB109_123:=aD ((bW BK109 hg));have NB123_109:=aD ((bX BK109 hg));replace BK109:=aD (aU BK109 hb);have NB113_123:=aD ((bW BK113 hg));have NB123_113:=aD ((bX BK113 hg));replace BK113:=aD (aU BK113 hb);clear hb hbox hg)|((with_reducible refine aW (N:=7) rfl ?_);(try (refine fG (by rfl) ?_;dsimp only));refine bS (N:=7) #[.int .i64 0,.int .i64 0,.int .i64 0] 72 ?_;intro gb124 hg w28 hbox hb;have BK124:=aD (hbox);have GW124:=aD ((cZ HB hg));have GE124:=aD ((cZ HB hg));replace HB:=aD (aE (bM HB) hb);have NB108_124:=aD ((bW BK108 hg));have NB124_108:=aD ((bX BK108 hg));replace BK108:=aD (aU BK108 hb);have NB109_124:=aD ((bW BK109 hg));have NB124_109:=aD ((bX BK109 hg));replace BK109:=aD (aU BK109 hb);have NB113_124:=aD ((bW BK113 hg));have NB124_113:=aD ((bX BK113 hg));replace BK113:=aD (aU BK113 hb);have NB123_124:=aD ((bW BK123 hg));have NB124_123:=aD ((bX BK123 hg));replace BK123:=aD (aU BK123 hb);clear hb hbox hg)|((with_reducible refine aW (N:=8) rfl ?_);(try (refine fG (by rfl) ?_;dsimp only));refine bS (N:=8) #[.int .i64 0,.int .i64 0,.int .i64 0] 72 ?_;intro gb125 hg w29 hbox hb;have BK125:=aD (hbox);have GW125:=aD ((cZ HB hg));have GE125:=aD ((cZ HB hg));replace HB:=aD (aE (bM HB) hb);have NB108_125:=aD ((bW BK108 hg));have NB125_108:=aD ((bX BK108 hg));replace BK108:=aD (aU BK108 hb);have NB109_125:=aD ((bW BK109 hg));have NB125_109:=aD ((bX BK109 hg));replace BK109:=aD (aU BK109 hb);have NB113_125:=aD ((bW BK113 hg));have NB125_113:=aD ((bX BK113 hg));replace BK113:=aD (aU BK113 hb);have NB123_125:=aD ((bW BK123 hg));have NB125_123:=aD ((bX BK123 hg));replace BK123:=aD (aU BK123 hb);have NB124_125:=aD ((bW BK124 hg));have NB125_124:=aD ((bX BK124 hg));replace BK124:=aD (aU BK124 hb);clear hb hbox hg;have hnb30:=NB123_108.out;have hnc30:=NB108_123.out;have hnb31:=NB123_109.out;have hnc31:=NB109_123.out;have hnb32:=NB123_113.out;have hnc32:=NB113_123.out;have hnb33:=NB123_124.out;have hnc33:=NB124_123.out;have hnb34:=NB123_125.out;have hnc34:=NB125_123.out;have hcz35_0:=aT BK123 0;have hcz35_1:=aT BK123 1;have hcz35_2:=aT BK123 2;have hfz35_0:=aC BK123.out 0;have hfz35_1:=aC BK123.out 1;have hfz35_2:=aC BK123.out 2;have hnb36:=NB124_108.out;have hnc36:=NB108_124.out;have hnb37:=NB124_109.out;have hnc37:=NB109_124.out;have hnb38:=NB124_113.out;have hnc38:=NB113_124.out;have hnb39:=NB124_125.out;have hnc39:=NB125_124.out;have hcz40_0:=aT BK124 0;have hcz40_1:=aT BK124 1;have hcz40_2:=aT BK124 2;have hfz40_0:=aC BK124.out 0;have hfz40_1:=aC BK124.out 1;have hfz40_2:=aC BK124.out 2;have hnb41:=NB125_108.out;have hnc41:=NB108_125.out;have hnb42:=NB125_109.out;have hnc42:=NB109_125.out;have hnb43:=NB125_113.out;have hnc43:=NB113_125.out;have hcz44_0:=aT BK125 0;have hcz44_1:=aT BK125 1;have hcz44_2:=aT BK125 2;have hfz44_0:=aC BK125.out 0;have hfz44_1:=aC BK125.out 1;have hfz44_2:=aC BK125.out 2)|((with_reducible refine aV (f:=79) rfl ?_);refine bK (some 42) Try.func79 #[.slice A0 l0.length c0] ?_;(with_reducible refine (mQ k _ _ l0 t126 _ ?side1 ?side2 A7.out).mono ?_);(case side1=>exact Kd.C_below HR0.out (bM HB));(case side2=>exact HC0.out);rintro e w45 ⟨v127,rfl,ho0,hb⟩;refine ⟨_,rfl,?_⟩;have HO128:=aD (Kd.R_lower ho0 (aM (bM HB)));replace BK108:=aD (bG (g:=gb108) (o:=.cells #[.int .i64 t102,.int .i64 t103,.int .i64 t104] 72 (0,0)) (eW BK108) hb);replace BK109:=aD (bG (g:=gb109) (o:=.cells #[.int .i64 t105,.int .i64 t106,.int .i64 t107] 72 (0,0)) (eW BK109) hb);replace BK113:=aD (bG (g:=gb113) (o:=.cells #[.int .i64 t110,.int .i64 t111,.int .i64 t112] 72 (0,0)) (eW BK113) hb);replace BK123:=aD (bG (g:=gb123) (o:=.cells #[.int .i64 t114,.int .i64 t115,.int .i64 t116] 72 (0,0)) (eW BK123) hb);replace BK124:=aD (bG (g:=gb124) (o:=.cells #[.int .i64 t117,.int .i64 t118,.int .i64 t119] 72 (0,0)) (by (with_reducible repeat (first|refine aQ ?_ _|refine aK ?_|refine aN ?_ _));refine bD ?_ NB124_125.out _;(with_reducible repeat (first|refine aQ ?_ _|refine aK ?_|refine aN ?_ _));refine bD ?_ NB124_125.out _;(with_reducible repeat (first|refine aQ ?_ _|refine aK ?_|refine aN ?_ _));refine bD ?_ NB124_125.out _;(with_reducible repeat (first|refine aQ ?_ _|refine aK ?_|refine aN ?_ _));refine cJ (cs:=#[.int .i64 t117,.int .i64 t118,.int .i64 0]) ?_ 2 _ rfl;(with_reducible repeat (first|refine aQ ?_ _|refine aK ?_|refine aN ?_ _));refine cJ (cs:=#[.int .i64 t117,.int .i64 0,.int .i64 0]) ?_ 1 _ rfl;(with_reducible repeat (first|refine aQ ?_ _|refine aK ?_|refine aN ?_ _));refine cJ (cs:=#[.int .i64 0,.int .i64 0,.int .i64 0]) ?_ 0 _ rfl;(with_reducible repeat (first|refine aQ ?_ _|refine aK ?_|refine aN ?_ _));refine bD ?_ NB124_123.out _;(with_reducible repeat (first|refine aQ ?_ _|refine aK ?_|refine aN ?_ _));refine bD ?_ NB124_123.out _;(with_reducible repeat (first|refine aQ ?_ _|refine aK ?_|refine aN ?_ _));refine bD ?_ NB124_123.out _;(with_reducible repeat (first|refine aQ ?_ _|refine aK ?_|refine aN ?_ _));exact BK124.out) hb);replace BK125:=aD (bG (g:=gb125) (o:=.cells #[.int .i64 t120,.int .i64 t121,.int .i64 t122] 72 (0,0)) (by (with_reducible repeat (first|refine aQ ?_ _|refine aK ?_|refine aN ?_ _));refine cJ (cs:=#[.int .i64 t120,.int .i64 t121,.int .i64 0]) ?_ 2 _ rfl;(with_reducible repeat (first|refine aQ ?_ _|refine aK ?_|refine aN ?_ _));refine cJ (cs:=#[.int .i64 t120,.int .i64 0,.int .i64 0]) ?_ 1 _ rfl;(with_reducible repeat (first|refine aQ ?_ _|refine aK ?_|refine aN ?_ _));refine cJ (cs:=#[.int .i64 0,.int .i64 0,.int .i64 0]) ?_ 0 _ rfl;(with_reducible repeat (first|refine aQ ?_ _|refine aK ?_|refine aN ?_ _));refine bD ?_ NB125_124.out _;(with_reducible repeat (first|refine aQ ?_ _|refine aK ?_|refine aN ?_ _));refine bD ?_ NB125_124.out _;(with_reducible repeat (first|refine aQ ?_ _|refine aK ?_|refine aN ?_ _));refine bD ?_ NB125_124.out _;(with_reducible repeat (first|refine aQ ?_ _|refine aK ?_|refine aN ?_ _));refine bD ?_ NB125_123.out _;(with_reducible repeat (first|refine aQ ?_ _|refine aK ?_|refine aN ?_ _));refine bD ?_ NB125_123.out _;(with_reducible repeat (first|refine aQ ?_ _|refine aK ?_|refine aN ?_ _));refine bD ?_ NB125_123.out _;(with_reducible repeat (first|refine aQ ?_ _|refine aK ?_|refine aN ?_ _));exact BK125.out) hb);replace HB:=aD (aE (bM HB) hb);(try clear hb);(try clear hk);(try clear ho0);obtain ⟨Ao46,co46,eo46⟩:=Kd.R_slice HO128.out;subst eo46)|((with_reducible refine aV (f:=69) rfl ?_);refine bK (some 45) Try.func69 #[.slice Ao46 t126.length co46] ?_;(with_reducible refine (pR k _ _ t126 t129 t130 _ ?side1 ?side2 A8.out).mono ?_);(case side1=>exact nK (Kd.R_reads' HO128.out).2.2);(case side2=>exact (Kd.R_reads' HO128.out).2.1);rintro e w47 ⟨v131,rfl,ho0,hb⟩;refine ⟨_,rfl,?_⟩;replace HO128:=aD (Kd.R_below (bN HO128) hb);have HO132:=aD (Kd.R_lower (Kd.R_newB (Kd.R_newB (Kd.R_newB (Kd.R_newB (Kd.R_newB (Kd.R_newB ho0 (g:=gb108) (o:=.cells #[.int .i64 t102,.int .i64 t103,.int .i64 t104] 72 (0,0)) (cF BK108)) (g:=gb109) (o:=.cells #[.int .i64 t105,.int .i64 t106,.int .i64 t107] 72 (0,0)) (cF BK109)) (g:=gb113) (o:=.cells #[.int .i64 t110,.int .i64 t111,.int .i64 t112] 72 (0,0)) (cF BK113)) (g:=gb123) (o:=.cells #[.int .i64 t114,.int .i64 t115,.int .i64 t116] 72 (0,0)) (cF BK123)) (g:=gb124) (o:=.cells #[.int .i64 t117,.int .i64 t118,.int .i64 t119] 72 (0,0)) (cF BK124)) (g:=gb125) (o:=.cells #[.int .i64 t120,.int .i64 t121,.int .i64 t122] 72 (0,0)) (cF BK125)) (aM (bM HB)));replace BK108:=aD (aU BK108 hb);replace BK109:=aD (aU BK109 hb);replace BK113:=aD (aU BK113 hb);replace BK123:=aD (aU BK123 hb);replace BK124:=aD (aU BK124 hb);replace BK125:=aD (aU BK125 hb);replace HB:=aD (aE (bM HB) hb);(try clear hb);(try clear hk);(try clear ho0))|((with_reducible refine aV (f:=68) rfl ?_);refine bK (some 50) Try.func68 #[.slice Ao46 t126.length co46] ?_;(with_reducible refine (pP k _ _ t126 t133 t134 _ ?side1 ?side2 A9.out).mono ?_);(case side1=>exact nK (Kd.R_reads' HO128.out).2.2);(case side2=>exact (Kd.R_reads' HO128.out).2.1);rintro e w48 ⟨v135,rfl,ho0,hb⟩;refine ⟨_,rfl,?_⟩;replace HO128:=aD (Kd.R_below (bN HO128) hb);have HO136:=aD (Kd.R_lower (Kd.R_newB (Kd.R_newB (Kd.R_newB (Kd.R_newB (Kd.R_newB (Kd.R_newB (Kd.R_new' ho0 (Kd.R_lt (bN HO132))) (g:=gb108) (o:=.cells #[.int .i64 t102,.int .i64 t103,.int .i64 t104] 72 (0,0)) (cF BK108)) (g:=gb109) (o:=.cells #[.int .i64 t105,.int .i64 t106,.int .i64 t107] 72 (0,0)) (cF BK109)) (g:=gb113) (o:=.cells #[.int .i64 t110,.int .i64 t111,.int .i64 t112] 72 (0,0)) (cF BK113)) (g:=gb123) (o:=.cells #[.int .i64 t114,.int .i64 t115,.int .i64 t116] 72 (0,0)) (cF BK123)) (g:=gb124) (o:=.cells #[.int .i64 t117,.int .i64 t118,.int .i64 t119] 72 (0,0)) (cF BK124)) (g:=gb125) (o:=.cells #[.int .i64 t120,.int .i64 t121,.int .i64 t122] 72 (0,0)) (cF BK125)) (aM (bM HB)));replace HO132:=aD (Kd.R_elder' (bN HO132) (Kd.R_base ho0) hb);replace BK108:=aD (aU BK108 hb);replace BK109:=aD (aU BK109 hb);replace BK113:=aD (aU BK113 hb);replace BK123:=aD (aU BK123 hb);replace BK124:=aD (aU BK124 hb);replace BK125:=aD (aU BK125 hb);replace HB:=aD (aE (bM HB) hb);(try clear hb);(try clear hk);(try clear ho0))|((with_reducible refine aV (f:=80) rfl ?_);refine bK (some 54) Try.func80 #[.slice A0 l0.length c0] ?_;(with_reducible refine (kZ k _ _ l0 t137 _ ?side1 ?side2 A10.out).mono ?_);(case side1=>exact nK (Kd.C_below HR0.out HB.out));(case side2=>exact HC0.out);rintro e w49 ⟨v138,rfl,ho0,hb⟩;refine ⟨_,rfl,?_⟩;replace HO132:=aD (Kd.R_below (bN HO132) hb);replace HO136:=aD (Kd.R_below (bN HO136) hb);have HO139:=aD (Kd.R_lower (Kd.R_new' ho0 (Kd.R_lt (bN HO128))) (aM (bM HB)));replace BK108:=aD (aU BK108 hb);replace BK109:=aD (aU BK109 hb);replace BK113:=aD (aU BK113 hb);replace BK123:=aD (aU BK123 hb);replace BK124:=aD (aU BK124 hb);replace BK125:=aD (aU BK125 hb);replace HB:=aD (aE (bM HB) hb);(try clear hb);(try clear hk);(try clear ho0);obtain ⟨Ao50,co50,eo50⟩:=Kd.R_slice HO139.out;subst eo50)|((with_reducible refine aV (f:=75) rfl ?_);refine bK (some 57) Try.func75 #[.slice Ao50 t137.length co50] ?_;(with_reducible refine (gX k _ _ t137 t140 t141 _ ?side1 ?side2 A11.out).mono ?_);(case side1=>exact nK (Kd.R_reads' HO139.out).2.2);(case side2=>exact (Kd.R_reads' HO139.out).2.1);rintro e w51 ⟨v142,rfl,ho0,hb⟩;refine ⟨_,rfl,?_⟩;replace HO139:=aD (Kd.R_below (bN HO139) hb);have HO143:=aD (Kd.R_lower (Kd.R_newB (Kd.R_newB (Kd.R_newB (Kd.R_newB (Kd.R_newB (Kd.R_newB (Kd.R_new' (Kd.R_new' ho0 (Kd.R_lt (bN HO132))) (Kd.R_lt (bN HO136))) (g:=gb108) (o:=.cells #[.int .i64 t102,.int .i64 t103,.int .i64 t104] 72 (0,0)) (cF BK108)) (g:=gb109) (o:=.cells #[.int .i64 t105,.int .i64 t106,.int .i64 t107] 72 (0,0)) (cF BK109)) (g:=gb113) (o:=.cells #[.int .i64 t110,.int .i64 t111,.int .i64 t112] 72 (0,0)) (cF BK113)) (g:=gb123) (o:=.cells #[.int .i64 t114,.int .i64 t115,.int .i64 t116] 72 (0,0)) (cF BK123)) (g:=gb124) (o:=.cells #[.int .i64 t117,.int .i64 t118,.int .i64 t119] 72 (0,0)) (cF BK124)) (g:=gb125) (o:=.cells #[.int .i64 t120,.int .i64 t121,.int .i64 t122] 72 (0,0)) (cF BK125)) (aM (bM HB)));replace HO132:=aD (Kd.R_elder' (bN HO132) (Kd.R_base ho0) hb);replace HO136:=aD (Kd.R_elder' (bN HO136) (Kd.R_base ho0) hb);replace BK108:=aD (aU BK108 hb);replace BK109:=aD (aU BK109 hb);replace BK113:=aD (aU BK113 hb);replace BK123:=aD (aU BK123 hb);replace BK124:=aD (aU BK124 hb);replace BK125:=aD (aU BK125 hb);replace HB:=aD (aE (bM HB) hb);(try clear hb);(try clear hk);(try clear ho0))|((with_reducible refine aV (f:=74) rfl ?_);refine bK (some 62) Try.func74 #[.slice Ao50 t137.length co50] ?_;(with_reducible refine (gW k _ _ t137 t144 t145 _ ?side1 ?side2 A12.out).mono ?_);(case side1=>exact nK (Kd.R_reads' HO139.out).2.2);(case side2=>exact (Kd.R_reads' HO139.out).2.1);rintro e w52 ⟨v146,rfl,ho0,hb⟩;refine ⟨_,rfl,?_⟩;replace HO139:=aD (Kd.R_below (bN HO139) hb);have HO147:=aD (Kd.R_lower (Kd.R_newB (Kd.R_newB (Kd.R_newB (Kd.R_newB (Kd.R_newB (Kd.R_newB (Kd.R_new' (Kd.R_new' (Kd.R_new' ho0 (Kd.R_lt (bN HO132))) (Kd.R_lt (bN HO136))) (Kd.R_lt (bN HO143))) (g:=gb108) (o:=.cells #[.int .i64 t102,.int .i64 t103,.int .i64 t104] 72 (0,0)) (cF BK108)) (g:=gb109) (o:=.cells #[.int .i64 t105,.int .i64 t106,.int .i64 t107] 72 (0,0)) (cF BK109)) (g:=gb113) (o:=.cells #[.int .i64 t110,.int .i64 t111,.int .i64 t112] 72 (0,0)) (cF BK113)) (g:=gb123) (o:=.cells #[.int .i64 t114,.int .i64 t115,.int .i64 t116] 72 (0,0)) (cF BK123)) (g:=gb124) (o:=.cells #[.int .i64 t117,.int .i64 t118,.int .i64 t119] 72 (0,0)) (cF BK124)) (g:=gb125) (o:=.cells #[.int .i64 t120,.int .i64 t121,.int .i64 t122] 72 (0,0)) (cF BK125)) (aM (bM HB)));replace HO132:=aD (Kd.R_elder' (bN HO132) (Kd.R_base ho0) hb);replace HO136:=aD (Kd.R_elder' (bN HO136) (Kd.R_base ho0) hb);replace HO143:=aD (Kd.R_elder' (bN HO143) (Kd.R_base ho0) hb);replace BK108:=aD (aU BK108 hb);replace BK109:=aD (aU BK109 hb);replace BK113:=aD (aU BK113 hb);replace BK123:=aD (aU BK123 hb);replace BK124:=aD (aU BK124 hb);replace BK125:=aD (aU BK125 hb);replace HB:=aD (aE (bM HB) hb);(try clear hb);(try clear hk);(try clear ho0))|((with_reducible refine aV (f:=81) rfl ?_);refine bK (some 66) Try.func81 #[.slice A0 l0.length c0] ?_;(with_reducible refine (mT k _ _ l0 t148 t149 _ ?side1 ?side2 A13.out).mono ?_);(case side1=>exact nK (Kd.C_below HR0.out HB.out));(case side2=>exact HC0.out);rintro e w53 ⟨rfl,hb⟩;refine ⟨_,rfl,?_⟩;replace HO132:=aD (Kd.R_below (bN HO132) hb);replace HO136:=aD (Kd.R_below (bN HO136) hb);replace HO139:=aD (Kd.R_below (bN HO139) hb);replace HO143:=aD (Kd.R_below (bN HO143) hb);replace HO147:=aD (Kd.R_below (bN HO147) hb);replace BK108:=aD (aU BK108 hb);replace BK109:=aD (aU BK109 hb);replace BK113:=aD (aU BK113 hb);replace BK123:=aD (aU BK123 hb);replace BK124:=aD (aU BK124 hb);replace BK125:=aD (aU BK125 hb);replace HB:=aD (aE (bM HB) hb);(try clear hb);(try clear hk))|((with_reducible refine aW (N:=19) rfl ?_);(try (refine fG (by rfl) ?_;dsimp only));refine bS (N:=19) #[.int .i64 0,.int .i64 0] 80 ?_;intro gb150 hg w54 hbox hb;replace HO132:=aD (Kd.R_below (bN HO132) hb);replace HO136:=aD (Kd.R_below (bN HO136) hb);replace HO139:=aD (Kd.R_below (Kd.R_elderB (bN HO139) gb150 (Nat.le_of_eq hg.symm)) hb);replace HO143:=aD (Kd.R_below (bN HO143) hb);replace HO147:=aD (Kd.R_below (bN HO147) hb);have BK150:=aD (hbox);have GW150:=aD ((cZ HB hg));have GE150:=aD ((cZ HB hg));replace HB:=aD (aE (bM HB) hb);have NB108_150:=aD ((bW BK108 hg));have NB150_108:=aD ((bX BK108 hg));replace BK108:=aD (aU BK108 hb);have NB109_150:=aD ((bW BK109 hg));have NB150_109:=aD ((bX BK109 hg));replace BK109:=aD (aU BK109 hb);have NB113_150:=aD ((bW BK113 hg));have NB150_113:=aD ((bX BK113 hg));replace BK113:=aD (aU BK113 hb);have NB123_150:=aD ((bW BK123 hg));have NB150_123:=aD ((bX BK123 hg));replace BK123:=aD (aU BK123 hb);have NB124_150:=aD ((bW BK124 hg));have NB150_124:=aD ((bX BK124 hg));replace BK124:=aD (aU BK124 hb);have NB125_150:=aD ((bW BK125 hg));have NB150_125:=aD ((bX BK125 hg));replace BK125:=aD (aU BK125 hb);clear hb hbox hg;have hnb55:=NB150_108.out;have hnc55:=NB108_150.out;have hnb56:=NB150_109.out;have hnc56:=NB109_150.out;have hnb57:=NB150_113.out;have hnc57:=NB113_150.out;have hnb58:=NB150_123.out;have hnc58:=NB123_150.out;have hnb59:=NB150_124.out;have hnc59:=NB124_150.out;have hnb60:=NB150_125.out;have hnc60:=NB125_150.out;have hcz61_0:=aT BK150 0;have hcz61_1:=aT BK150 1;have hfz61_0:=aC BK150.out 0;have hfz61_1:=aC BK150.out 1))
  (try simp only [Act.put,List.setIfInBounds_toArray,List.set_cons_zero,List.set_cons_succ])
  go_cut [118] (fun v118 wc=>∃ (kq:Nat) (x118_13:Bool),v118=.bool x118_13∧Aside0 (bR kq t129 t130 t137 t140 t141 x118_13 t102 t103 t104 t105 t106 t107 t110 t111 t112 t114 t115 t116 t117 t118 t119 t120 t121 t122=some true)∧Aside0 (kq≤k)∧Aside0 (Kd.R gG 72 wc w.heap.size (fun k_=>some k_≠(v142:Value).ownBlock∧k_≠gb108∧k_≠gb109∧k_≠gb113∧k_≠gb123∧k_≠gb124∧k_≠gb125) v131 t129)∧Aside0 (Kd.R gA 80 wc w.heap.size (fun k_=>k_≠gb150) (.slice Ao50 t137.length co50) t137)∧Aside0 (Kd.R gG 72 wc w.heap.size (fun k_=>some k_≠(v131:Value).ownBlock∧k_≠gb108∧k_≠gb109∧k_≠gb113∧k_≠gb123∧k_≠gb124∧k_≠gb125) v142 t140)∧Aside0 (wc.heap[gb108]? = some (.cells #[.int .i64 t102,.int .i64 t103,.int .i64 t104] 72 (0,0)))∧Aside0 (wc.heap[gb109]? = some (.cells #[.int .i64 t105,.int .i64 t106,.int .i64 t107] 72 (0,0)))∧Aside0 (wc.heap[gb113]? = some (.cells #[.int .i64 t110,.int .i64 t111,.int .i64 t112] 72 (0,0)))∧Aside0 (wc.heap[gb123]? = some (.cells #[.int .i64 t114,.int .i64 t115,.int .i64 t116] 72 (0,0)))∧Aside0 (wc.heap[gb124]? = some (.cells #[.int .i64 t117,.int .i64 t118,.int .i64 t119] 72 (0,0)))∧Aside0 (wc.heap[gb125]? = some (.cells #[.int .i64 t120,.int .i64 t121,.int .i64 t122] 72 (0,0)))∧Aside0 (Below w.heap.size w wc))
  case first => as_aux_lemma =>
   have H:=HC14.out
   clear HC14
   replace H:=fQ H
   obtain ⟨⟨t151,t152,t153⟩,A62,H⟩:=H
   try dsimp only at H
   replace H:=kK H
   rcases H with ⟨c63,H⟩|⟨c63,H⟩
   ·exact absurd H (dN _ _ _ _ _ _ _ _ _ _ _ _ _ _ _ _ _ _ _ _ _ _ _ _)
   ·have c63b0 : (!(t110 == t151) || (!(t111 == t152) || (!(t112 == t153)))) = false := by simpa using c63
    clear c63
    (first|rw [c63b0]|(simp only [aZ,bB];rw [c63b0])|skip)
    replace H:=fQ H
    obtain ⟨t154,A67,H⟩:=H
    replace H:=fQ H
    obtain ⟨t155,A68,H⟩:=H
    replace H:=kK H
    rcases H with ⟨c69,H⟩|⟨c69,H⟩
    ·exact absurd H (dN _ _ _ _ _ _ _ _ _ _ _ _ _ _ _ _ _ _ _ _ _ _ _ _)
    ·obtain rfl:t154=t155:=by simpa using c69
     have c69b0:(t154 != t154)=false:=bne_self_eq_false _
     clear c69
     replace H:=kK H
     rcases H with ⟨c75,H⟩|⟨c75,H⟩
     ·exact absurd H (dN _ _ _ _ _ _ _ _ _ _ _ _ _ _ _ _ _ _ _ _ _ _ _ _)
     ·obtain rfl:t130=t134:=by simpa using c75
      have c75b0:(t130 != t130)=false:=bne_self_eq_false _
      clear c75
      replace H:=fQ H
      obtain ⟨t156,A81,H⟩:=H
      by_cases c82:t156=true
      ·subst c82
       rw [if_pos rfl] at H
       replace H:=kK H
       rcases H with ⟨c83,H⟩|⟨c83,H⟩
       ·exact absurd H (dN _ _ _ _ _ _ _ _ _ _ _ _ _ _ _ _ _ _ _ _ _ _ _ _)
       ·obtain rfl:t141=t145:=by simpa using c83
        have c83b0:(t141 != t141)=false:=bne_self_eq_false _
        clear c83
        replace H:=fQ H
        obtain ⟨t157,A91,H⟩:=H
        by_cases c92:t157=true
        ·subst c92
         rw [if_pos rfl] at H
         replace H:=fQ H
         obtain ⟨t158,A93,H⟩:=H
         replace H:=fQ H
         obtain ⟨t159,A94,H⟩:=H
         replace H:=kK H
         rcases H with ⟨c95,H⟩|⟨c95,H⟩
         ·exact absurd H (dN _ _ _ _ _ _ _ _ _ _ _ _ _ _ _ _ _ _ _ _ _ _ _ _)
         ·obtain rfl:t158=t159:=by simpa using c95
          have c95b0:(t158 != t158)=false:=bne_self_eq_false _
          clear c95
          replace H:=fQ H
          obtain ⟨⟨t160,t161,t162⟩,A107,H⟩:=H
          try dsimp only at H
          replace H:=fQ H
          obtain ⟨⟨t163,t164,t165⟩,A108,H⟩:=H
          try dsimp only at H
          have H':=aD H
          clear H
          try go_wp2
          replace HO132:Aside0 (Kd.R gG 72 ((w54.setCell ⟨gb150,0,none⟩ (.int .i64 t148)).setCell ⟨gb150,1,none⟩ (.int .i64 t149)) w.heap.size (fun k_=>some k_≠(v135:Value).ownBlock∧some k_≠(v142:Value).ownBlock∧some k_≠(v146:Value).ownBlock∧k_≠gb108∧k_≠gb109∧k_≠gb113∧k_≠gb123∧k_≠gb124∧k_≠gb125) v131 t129):=⟨by (with_reducible repeat (first|apply fK|apply gF|apply eQ));exact Kd.R_mono (Kd.R_far (p:=⟨gb150,1,none⟩) (Kd.R_far (p:=⟨gb150,0,none⟩) (Kd.R_types HO132.out BK150.out (by decide)) (fun _ hk=>hk.2) (.int .i64 t148)) (fun _ hk=>hk.2) (.int .i64 t149)) (fun _ hk=>⟨hk.1.1.1.2,⟨hk.1.1.2,⟨hk.1.2,⟨hk.1.1.1.1.1.1.1.1.1.2,⟨hk.1.1.1.1.1.1.1.1.2,⟨hk.1.1.1.1.1.1.1.2,⟨hk.1.1.1.1.1.1.2,⟨hk.1.1.1.1.1.2,hk.1.1.1.1.2⟩⟩⟩⟩⟩⟩⟩⟩)⟩
          replace HO136:Aside0 (Kd.R gG 72 ((w54.setCell ⟨gb150,0,none⟩ (.int .i64 t148)).setCell ⟨gb150,1,none⟩ (.int .i64 t149)) w.heap.size (fun k_=>some k_≠(v131:Value).ownBlock∧some k_≠(v142:Value).ownBlock∧some k_≠(v146:Value).ownBlock∧k_≠gb108∧k_≠gb109∧k_≠gb113∧k_≠gb123∧k_≠gb124∧k_≠gb125) v135 t133):=⟨by (with_reducible repeat (first|apply fK|apply gF|apply eQ));exact Kd.R_mono (Kd.R_far (p:=⟨gb150,1,none⟩) (Kd.R_far (p:=⟨gb150,0,none⟩) (Kd.R_types HO136.out BK150.out (by decide)) (fun _ hk=>hk.2) (.int .i64 t148)) (fun _ hk=>hk.2) (.int .i64 t149)) (fun _ hk=>⟨hk.1.1.1.1.1.1.1.1.1.2,⟨hk.1.1.2,⟨hk.1.2,⟨hk.1.1.1.1.1.1.1.1.2,⟨hk.1.1.1.1.1.1.1.2,⟨hk.1.1.1.1.1.1.2,⟨hk.1.1.1.1.1.2,⟨hk.1.1.1.1.2,hk.1.1.1.2⟩⟩⟩⟩⟩⟩⟩⟩)⟩
          replace HO139:Aside0 (Kd.R gA 80 ((w54.setCell ⟨gb150,0,none⟩ (.int .i64 t148)).setCell ⟨gb150,1,none⟩ (.int .i64 t149)) w.heap.size (fun k_=>some k_≠(.slice Ao46 t126.length co46:Value).ownBlock∧k_≠gb150) (.slice Ao50 t137.length co50) t137):=⟨by (with_reducible repeat (first|apply fK|apply gF|apply eQ));exact Kd.R_mono (Kd.R_far (p:=⟨gb150,1,none⟩) (Kd.R_far (p:=⟨gb150,0,none⟩) (Kd.R_mono HO139.out (fun k_ hk=>(⟨hk,hk.2⟩:_∧k_≠gb150))) (fun _ hk=>hk.2) (.int .i64 t148)) (fun _ hk=>hk.2) (.int .i64 t149)) (fun _ hk=>⟨hk.1.1.2,hk.1.2⟩)⟩
          replace HO143:Aside0 (Kd.R gG 72 ((w54.setCell ⟨gb150,0,none⟩ (.int .i64 t148)).setCell ⟨gb150,1,none⟩ (.int .i64 t149)) w.heap.size (fun k_=>some k_≠(v131:Value).ownBlock∧some k_≠(v135:Value).ownBlock∧some k_≠(v146:Value).ownBlock∧k_≠gb108∧k_≠gb109∧k_≠gb113∧k_≠gb123∧k_≠gb124∧k_≠gb125) v142 t140):=⟨by (with_reducible repeat (first|apply fK|apply gF|apply eQ));exact Kd.R_mono (Kd.R_far (p:=⟨gb150,1,none⟩) (Kd.R_far (p:=⟨gb150,0,none⟩) (Kd.R_types HO143.out BK150.out (by decide)) (fun _ hk=>hk.2) (.int .i64 t148)) (fun _ hk=>hk.2) (.int .i64 t149)) (fun _ hk=>⟨hk.1.1.1.1.1.1.1.1.1.2,⟨hk.1.1.1.1.1.1.1.1.2,⟨hk.1.2,⟨hk.1.1.1.1.1.1.1.2,⟨hk.1.1.1.1.1.1.2,⟨hk.1.1.1.1.1.2,⟨hk.1.1.1.1.2,⟨hk.1.1.1.2,hk.1.1.2⟩⟩⟩⟩⟩⟩⟩⟩)⟩
          replace HO147:Aside0 (Kd.R gG 72 ((w54.setCell ⟨gb150,0,none⟩ (.int .i64 t148)).setCell ⟨gb150,1,none⟩ (.int .i64 t149)) w.heap.size (fun k_=>some k_≠(v131:Value).ownBlock∧some k_≠(v135:Value).ownBlock∧some k_≠(v142:Value).ownBlock∧k_≠gb108∧k_≠gb109∧k_≠gb113∧k_≠gb123∧k_≠gb124∧k_≠gb125) v146 t144):=⟨by (with_reducible repeat (first|apply fK|apply gF|apply eQ));exact Kd.R_mono (Kd.R_far (p:=⟨gb150,1,none⟩) (Kd.R_far (p:=⟨gb150,0,none⟩) (Kd.R_types HO147.out BK150.out (by decide)) (fun _ hk=>hk.2) (.int .i64 t148)) (fun _ hk=>hk.2) (.int .i64 t149)) (fun _ hk=>⟨hk.1.1.1.1.1.1.1.1.1.2,⟨hk.1.1.1.1.1.1.1.1.2,⟨hk.1.1.1.1.1.1.1.2,⟨hk.1.1.1.1.1.1.2,⟨hk.1.1.1.1.1.2,⟨hk.1.1.1.1.2,⟨hk.1.1.1.2,⟨hk.1.1.2,hk.1.2⟩⟩⟩⟩⟩⟩⟩⟩)⟩
          replace BK108:Aside0 (((w54.setCell ⟨gb150,0,none⟩ (.int .i64 t148)).setCell ⟨gb150,1,none⟩ (.int .i64 t149)).heap[gb108]? = some (.cells #[.int .i64 t102,.int .i64 t103,.int .i64 t104] 72 (0,0))):=⟨eW BK108⟩
          replace BK109:Aside0 (((w54.setCell ⟨gb150,0,none⟩ (.int .i64 t148)).setCell ⟨gb150,1,none⟩ (.int .i64 t149)).heap[gb109]? = some (.cells #[.int .i64 t105,.int .i64 t106,.int .i64 t107] 72 (0,0))):=⟨eW BK109⟩
          replace BK113:Aside0 (((w54.setCell ⟨gb150,0,none⟩ (.int .i64 t148)).setCell ⟨gb150,1,none⟩ (.int .i64 t149)).heap[gb113]? = some (.cells #[.int .i64 t110,.int .i64 t111,.int .i64 t112] 72 (0,0))):=⟨eW BK113⟩
          replace BK123:Aside0 (((w54.setCell ⟨gb150,0,none⟩ (.int .i64 t148)).setCell ⟨gb150,1,none⟩ (.int .i64 t149)).heap[gb123]? = some (.cells #[.int .i64 t114,.int .i64 t115,.int .i64 t116] 72 (0,0))):=⟨eW BK123⟩
          replace BK124:Aside0 (((w54.setCell ⟨gb150,0,none⟩ (.int .i64 t148)).setCell ⟨gb150,1,none⟩ (.int .i64 t149)).heap[gb124]? = some (.cells #[.int .i64 t117,.int .i64 t118,.int .i64 t119] 72 (0,0))):=⟨eW BK124⟩
          replace BK125:Aside0 (((w54.setCell ⟨gb150,0,none⟩ (.int .i64 t148)).setCell ⟨gb150,1,none⟩ (.int .i64 t149)).heap[gb125]? = some (.cells #[.int .i64 t120,.int .i64 t121,.int .i64 t122] 72 (0,0))):=⟨eW BK125⟩
          replace BK150:Aside0 (((w54.setCell ⟨gb150,0,none⟩ (.int .i64 t148)).setCell ⟨gb150,1,none⟩ (.int .i64 t149)).heap[gb150]? = some (.cells #[.int .i64 t148,.int .i64 t149] 80 (0,0))):=⟨eW BK150⟩
          replace HB:Aside0 (Below w.heap.size w ((w54.setCell ⟨gb150,0,none⟩ (.int .i64 t148)).setCell ⟨gb150,1,none⟩ (.int .i64 t149))):=⟨bM HB⟩
          generalize ((w54.setCell ⟨gb150,0,none⟩ (.int .i64 t148)).setCell ⟨gb150,1,none⟩ (.int .i64 t149))=w109 at HO132 HO136 HO139 HO143 HO147 BK108 BK109 BK113 BK123 BK124 BK125 BK150 HB ⊢
          replace HO132:=aD (eQ HO132.out)
          replace HO136:=aD (eQ HO136.out)
          replace HO139:=aD (eQ HO139.out)
          replace HO143:=aD (eQ HO143.out)
          replace HO147:=aD (eQ HO147.out)
          replace BK108:=aD (aK BK108.out)
          replace BK109:=aD (aK BK109.out)
          replace BK113:=aD (aK BK113.out)
          replace BK123:=aD (aK BK123.out)
          replace BK124:=aD (aK BK124.out)
          replace BK125:=aD (aK BK125.out)
          replace BK150:=aD (aK BK150.out)
          replace HB:=aD (lC HB.out)
          refine eE (n:=52) (S:=fun w'=>w'.cell? ⟨gb113,0,none⟩=some (.int .i64 t110)∧w'.cell? ⟨gb113,1,none⟩=some (.int .i64 t111)∧w'.cell? ⟨gb113,2,none⟩=some (.int .i64 t112)∧w'.cell? ⟨gb108,0,none⟩=some (.int .i64 t102)∧w'.cell? ⟨gb108,1,none⟩=some (.int .i64 t103)∧w'.cell? ⟨gb108,2,none⟩=some (.int .i64 t104)∧w'.cell? ⟨gb109,0,none⟩=some (.int .i64 t105)∧w'.cell? ⟨gb109,1,none⟩=some (.int .i64 t106)∧w'.cell? ⟨gb109,2,none⟩=some (.int .i64 t107)∧w'.cell? ⟨gb123,0,none⟩=some (.int .i64 t114)∧w'.cell? ⟨gb123,1,none⟩=some (.int .i64 t115)∧w'.cell? ⟨gb123,2,none⟩=some (.int .i64 t116)∧w'.cell? ⟨gb124,0,none⟩=some (.int .i64 t117)∧w'.cell? ⟨gb124,1,none⟩=some (.int .i64 t118)∧w'.cell? ⟨gb124,2,none⟩=some (.int .i64 t119)∧w'.cell? ⟨gb125,0,none⟩=some (.int .i64 t120)∧w'.cell? ⟨gb125,1,none⟩=some (.int .i64 t121)∧w'.cell? ⟨gb125,2,none⟩=some (.int .i64 t122)∧w'.cell? ⟨gb150,0,none⟩=some (.int .i64 t148)∧w'.cell? ⟨gb150,1,none⟩=some (.int .i64 t149)) (ds:=[]) (bm 52 0) (by kernel_rfl) rfl rfl ⟨aT BK113 0,aT BK113 1,aT BK113 2,aT BK108 0,aT BK108 1,aT BK108 2,aT BK109 0,aT BK109 1,aT BK109 2,aT BK123 0,aT BK123 1,aT BK123 2,aT BK124 0,aT BK124 1,aT BK124 2,aT BK125 0,aT BK125 1,aT BK125 2,aT BK150 0,aT BK150 1⟩ (fun hHeld=>?_);refine cX mU lV (fun HT_ HW_=>?_)
          generalize w109.drew=w110 at HO132 HO136 HO139 HO143 HO147 BK108 BK109 BK113 BK123 BK124 BK125 BK150 HB hHeld ⊢
          refine dG ((2,0,67,1)::(2,1,68,3)::(2,2,69,7)::[]) ?_
          iterate 3 (first|refine qB HT_ HW_ hHeld ?_)
          refine bL ?_
          refine cS (i:=3) (N:=some 70) (bm 52 15) rfl rfl (bI HT_.out (by kernel_rfl)) (by decide) (fun K hK=>?_)
          refine bP Try.func82 #[.agg #[.int .i64 t102,.int .i64 t103,.int .i64 t104],.agg #[.int .i64 t105,.int .i64 t106,.int .i64 t107]] ?_
          with_reducible refine (aH k t102 t103 t104 t105 t106 t107 t151 t152 t153 _ A62.out).mono ?_
          rintro e w111 ⟨rfl,hb⟩
          refine ⟨_,rfl,?_⟩
          replace HO132:=aD (Kd.R_below (bN HO132) hb)
          replace HO136:=aD (Kd.R_below (bN HO136) hb)
          replace HO139:=aD (Kd.R_below (bN HO139) hb)
          replace HO143:=aD (Kd.R_below (bN HO143) hb)
          replace HO147:=aD (Kd.R_below (bN HO147) hb)
          replace BK108:=aD (aU BK108 hb)
          replace BK109:=aD (aU BK109 hb)
          replace BK113:=aD (aU BK113 hb)
          replace BK123:=aD (aU BK123 hb)
          replace BK124:=aD (aU BK124 hb)
          replace BK125:=aD (aU BK125 hb)
          replace BK150:=aD (aU BK150 hb)
          replace HB:=aD (aE (bM HB) hb)
          (try clear hb)
          (try clear hk)
          refine hK.out _ _ ⟨aT BK113 0,aT BK113 1,aT BK113 2,aT BK108 0,aT BK108 1,aT BK108 2,aT BK109 0,aT BK109 1,aT BK109 2,aT BK123 0,aT BK123 1,aT BK123 2,aT BK124 0,aT BK124 1,aT BK124 2,aT BK125 0,aT BK125 1,aT BK125 2,aT BK150 0,aT BK150 1⟩ (fun hHeld=>?_)
          clear hK K
          refine cW (some 70) ?_
          refine dG ((0,4,71,31)::(0,5,72,63)::(2,6,73,127)::(2,7,74,255)::(2,8,75,511)::(2,10,77,1535)::(2,11,78,3583)::(2,12,79,7679)::[]) ?_
          iterate 8 (first|refine jT HT_ ?_|refine qB HT_ HW_ hHeld ?_)
          refine bL ?_
          refine cS (i:=9) (N:=some 76) (bm 52 8191) rfl rfl (bI HT_.out (by kernel_rfl)) (by decide) (fun K hK=>?_)
          refine bP Try.func83 #[.agg #[.int .i64 t114,.int .i64 t115,.int .i64 t116],.agg #[.int .i64 t117,.int .i64 t118,.int .i64 t119],.agg #[.int .i64 t120,.int .i64 t121,.int .i64 t122]] ?_
          with_reducible refine (fC t114 t115 t116 t117 t118 t119 t120 t121 t122 t154 _ A67.out).mono ?_
          rintro e w112 ⟨rfl,hb⟩
          refine ⟨_,rfl,?_⟩
          replace HO132:=aD (Kd.R_below (bN HO132) hb)
          replace HO136:=aD (Kd.R_below (bN HO136) hb)
          replace HO139:=aD (Kd.R_below (bN HO139) hb)
          replace HO143:=aD (Kd.R_below (bN HO143) hb)
          replace HO147:=aD (Kd.R_below (bN HO147) hb)
          replace BK108:=aD (aU BK108 hb)
          replace BK109:=aD (aU BK109 hb)
          replace BK113:=aD (aU BK113 hb)
          replace BK123:=aD (aU BK123 hb)
          replace BK124:=aD (aU BK124 hb)
          replace BK125:=aD (aU BK125 hb)
          replace BK150:=aD (aU BK150 hb)
          replace HB:=aD (aE (bM HB) hb)
          (try clear hb)
          (try clear hk)
          refine hK.out _ _ ⟨aT BK113 0,aT BK113 1,aT BK113 2,aT BK108 0,aT BK108 1,aT BK108 2,aT BK109 0,aT BK109 1,aT BK109 2,aT BK123 0,aT BK123 1,aT BK123 2,aT BK124 0,aT BK124 1,aT BK124 2,aT BK125 0,aT BK125 1,aT BK125 2,aT BK150 0,aT BK150 1⟩ (fun hHeld=>?_)
          clear hK K
          refine cW (some 76) ?_
          refine cS (i:=13) (N:=some 80) (bm 52 16383) rfl rfl (bI HT_.out (by kernel_rfl)) (by decide) (fun K hK=>?_)
          refine bP Try.func84 #[.agg #[.int .i64 t114,.int .i64 t115,.int .i64 t116],.agg #[.int .i64 t117,.int .i64 t118,.int .i64 t119],.agg #[.int .i64 t120,.int .i64 t121,.int .i64 t122]] ?_
          with_reducible refine (bT t114 t115 t116 t117 t118 t119 t120 t121 t122 t154 _ A68.out).mono ?_
          rintro e w113 ⟨rfl,hb⟩
          refine ⟨_,rfl,?_⟩
          replace HO132:=aD (Kd.R_below (bN HO132) hb)
          replace HO136:=aD (Kd.R_below (bN HO136) hb)
          replace HO139:=aD (Kd.R_below (bN HO139) hb)
          replace HO143:=aD (Kd.R_below (bN HO143) hb)
          replace HO147:=aD (Kd.R_below (bN HO147) hb)
          replace BK108:=aD (aU BK108 hb)
          replace BK109:=aD (aU BK109 hb)
          replace BK113:=aD (aU BK113 hb)
          replace BK123:=aD (aU BK123 hb)
          replace BK124:=aD (aU BK124 hb)
          replace BK125:=aD (aU BK125 hb)
          replace BK150:=aD (aU BK150 hb)
          replace HB:=aD (aE (bM HB) hb)
          (try clear hb)
          (try clear hk)
          obtain ⟨Ao114,co114,eo114⟩:=Kd.R_slice HO132.out
          (first|subst eo114|(injection eo114 with f1_ f2_ f3_;have f4_:=f1_.symm;have f5_:=f3_.symm;clear f1_ f2_ f3_;subst f4_;subst f5_))
          obtain ⟨Ao115,co115,eo115⟩:=Kd.R_slice HO136.out
          (first|subst eo115|(injection eo115 with f1_ f2_ f3_;have f4_:=f1_.symm;have f5_:=f3_.symm;clear f1_ f2_ f3_;subst f4_;subst f5_))
          refine hK.out _ _ ⟨aT BK113 0,aT BK113 1,aT BK113 2,aT BK108 0,aT BK108 1,aT BK108 2,aT BK109 0,aT BK109 1,aT BK109 2,aT BK123 0,aT BK123 1,aT BK123 2,aT BK124 0,aT BK124 1,aT BK124 2,aT BK125 0,aT BK125 1,aT BK125 2,aT BK150 0,aT BK150 1⟩ (fun hHeld=>?_)
          clear hK K
          refine cW (some 80) ?_
          refine dG ((0,14,81,32767)::(0,15,82,65535)::(0,16,83,131071)::(0,17,84,262143)::(0,18,85,524287)::(0,19,86,1048575)::(0,20,87,2097151)::(0,21,88,4194303)::(0,22,89,8388607)::(0,23,90,16777215)::[]) ?_
          iterate 10 (first|refine jT HT_ ?_)
          refine bL ?_
          refine cS (i:=24) (N:=some 91) (bm 52 33554431) rfl rfl (bI HT_.out (by kernel_rfl)) (by decide) (fun K hK=>?_)
          refine bP Try.func85 #[.slice Ao114 t129.length co114,.slice Ao115 t133.length co115] ?_
          with_reducible refine (jF k _ _ t129 _ _ t133 true _ ?side1 ?side2 ?side3 ?side4 A81.out).mono ?_
          (case side1=>exact nK (Kd.R_reads' HO132.out).2.2)
          (case side2=>exact (Kd.R_reads' HO132.out).2.1)
          (case side3=>exact nK (Kd.R_reads' HO136.out).2.2)
          (case side4=>exact (Kd.R_reads' HO136.out).2.1)
          rintro e w' ⟨rfl,⟨nd,rfl⟩⟩
          refine ⟨_,rfl,?_⟩
          obtain ⟨Ao116,co116,eo116⟩:=Kd.R_slice HO143.out
          (first|subst eo116|(injection eo116 with f1_ f2_ f3_;have f4_:=f1_.symm;have f5_:=f3_.symm;clear f1_ f2_ f3_;subst f4_;subst f5_))
          obtain ⟨Ao117,co117,eo117⟩:=Kd.R_slice HO147.out
          (first|subst eo117|(injection eo117 with f1_ f2_ f3_;have f4_:=f1_.symm;have f5_:=f3_.symm;clear f1_ f2_ f3_;subst f4_;subst f5_))
          refine hK.out _ _ ⟨aT BK113 0,aT BK113 1,aT BK113 2,aT BK108 0,aT BK108 1,aT BK108 2,aT BK109 0,aT BK109 1,aT BK109 2,aT BK123 0,aT BK123 1,aT BK123 2,aT BK124 0,aT BK124 1,aT BK124 2,aT BK125 0,aT BK125 1,aT BK125 2,aT BK150 0,aT BK150 1⟩ (fun hHeld=>?_)
          clear hK K
          refine cW (some 91) ?_
          refine dG ((0,25,92,67108863)::(0,26,93,134217727)::(0,27,94,268435455)::(0,28,95,536870911)::(0,29,96,1073741823)::(0,30,97,2147483647)::(0,31,98,4294967295)::(0,32,99,8589934591)::(0,33,100,17179869183)::(0,34,101,34359738367)::[]) ?_
          iterate 10 (first|refine jT HT_ ?_)
          refine bL ?_
          refine cS (i:=35) (N:=some 102) (bm 52 68719476735) rfl rfl (bI HT_.out (by kernel_rfl)) (by decide) (fun K hK=>?_)
          refine bP Try.func85 #[.slice Ao116 t140.length co116,.slice Ao117 t144.length co117] ?_
          with_reducible refine (jF k _ _ t140 _ _ t144 true _ ?side1 ?side2 ?side3 ?side4 A91.out).mono ?_
          (case side1=>exact nK (Kd.R_reads' HO143.out).2.2)
          (case side2=>exact (Kd.R_reads' HO143.out).2.1)
          (case side3=>exact nK (Kd.R_reads' HO147.out).2.2)
          (case side4=>exact (Kd.R_reads' HO147.out).2.1)
          rintro e w' ⟨rfl,⟨nd,rfl⟩⟩
          refine ⟨_,rfl,?_⟩
          refine hK.out _ _ ⟨aT BK113 0,aT BK113 1,aT BK113 2,aT BK108 0,aT BK108 1,aT BK108 2,aT BK109 0,aT BK109 1,aT BK109 2,aT BK123 0,aT BK123 1,aT BK123 2,aT BK124 0,aT BK124 1,aT BK124 2,aT BK125 0,aT BK125 1,aT BK125 2,aT BK150 0,aT BK150 1⟩ (fun hHeld=>?_)
          clear hK K
          refine cW (some 102) ?_
          refine dG ((0,36,103,137438953471)::(0,37,104,274877906943)::(0,38,105,549755813887)::(0,39,106,1099511627775)::(0,41,108,3298534883327)::[]) ?_
          iterate 5 (first|refine jT HT_ ?_)
          refine bL ?_
          refine cS (i:=40) (N:=some 107) (bm 52 4398046511103) rfl rfl (bI HT_.out (by kernel_rfl)) (by decide) (fun K hK=>?_)
          refine bP Try.func66 #[.slice Ao50 t137.length co50] ?_
          with_reducible refine (fE k _ _ t137 t158 _ ?side1 ?side2 A93.out).mono ?_
          (case side1=>exact nK (Kd.R_reads' HO139.out).2.2)
          (case side2=>exact (Kd.R_reads' HO139.out).2.1)
          rintro e w118 ⟨rfl,hb⟩
          refine ⟨_,rfl,?_⟩
          replace HO132:=aD (Kd.R_below (bN HO132) hb)
          replace HO139:=aD (Kd.R_below (bN HO139) hb)
          replace HO143:=aD (Kd.R_below (bN HO143) hb)
          replace BK108:=aD (aU BK108 hb)
          replace BK109:=aD (aU BK109 hb)
          replace BK113:=aD (aU BK113 hb)
          replace BK123:=aD (aU BK123 hb)
          replace BK124:=aD (aU BK124 hb)
          replace BK125:=aD (aU BK125 hb)
          replace BK150:=aD (aU BK150 hb)
          replace HB:=aD (aE (bM HB) hb)
          (try clear hb)
          (try clear hk)
          refine hK.out _ _ ⟨aT BK113 0,aT BK113 1,aT BK113 2,aT BK108 0,aT BK108 1,aT BK108 2,aT BK109 0,aT BK109 1,aT BK109 2,aT BK123 0,aT BK123 1,aT BK123 2,aT BK124 0,aT BK124 1,aT BK124 2,aT BK125 0,aT BK125 1,aT BK125 2,aT BK150 0,aT BK150 1⟩ (fun hHeld=>?_)
          clear hK K
          refine cW (some 107) ?_
          refine cS (i:=42) (N:=some 109) (bm 52 8796093022207) rfl rfl (bI HT_.out (by kernel_rfl)) (by decide) (fun K hK=>?_)
          refine bP Try.func64 #[.slice Ao50 t137.length co50] ?_
          with_reducible refine (lF k _ _ t137 t158 _ ?side1 ?side2 A94.out).mono ?_
          (case side1=>exact nK (Kd.R_reads' HO139.out).2.2)
          (case side2=>exact (Kd.R_reads' HO139.out).2.1)
          rintro e w119 ⟨rfl,hb⟩
          refine ⟨_,rfl,?_⟩
          replace HO132:=aD (Kd.R_below (bN HO132) hb)
          replace HO139:=aD (Kd.R_below (bN HO139) hb)
          replace HO143:=aD (Kd.R_below (bN HO143) hb)
          replace BK108:=aD (aU BK108 hb)
          replace BK109:=aD (aU BK109 hb)
          replace BK113:=aD (aU BK113 hb)
          replace BK123:=aD (aU BK123 hb)
          replace BK124:=aD (aU BK124 hb)
          replace BK125:=aD (aU BK125 hb)
          replace BK150:=aD (aU BK150 hb)
          replace HB:=aD (aE (bM HB) hb)
          (try clear hb)
          (try clear hk)
          refine hK.out _ _ ⟨aT BK113 0,aT BK113 1,aT BK113 2,aT BK108 0,aT BK108 1,aT BK108 2,aT BK109 0,aT BK109 1,aT BK109 2,aT BK123 0,aT BK123 1,aT BK123 2,aT BK124 0,aT BK124 1,aT BK124 2,aT BK125 0,aT BK125 1,aT BK125 2,aT BK150 0,aT BK150 1⟩ (fun hHeld=>?_)
          clear hK K
          refine cW (some 109) ?_
          refine dG ((0,43,110,17592186044415)::(0,44,111,35184372088831)::(0,45,112,70368744177663)::(2,46,113,140737488355327)::(2,48,115,422212465065983)::[]) ?_
          iterate 5 (first|refine jT HT_ ?_|refine qB HT_ HW_ hHeld ?_)
          refine bL ?_
          refine cS (i:=47) (N:=some 114) (bm 52 562949953421311) rfl rfl (bI HT_.out (by kernel_rfl)) (by decide) (fun K hK=>?_)
          refine bP Try.func86 #[.agg #[.int .i64 t148,.int .i64 t149]] ?_
          with_reducible refine (iM t148 t149 t160 t161 t162 _ A107.out).mono ?_
          rintro e w120 ⟨rfl,hb⟩
          refine ⟨_,rfl,?_⟩
          replace HO132:=aD (Kd.R_below (bN HO132) hb)
          replace HO139:=aD (Kd.R_below (bN HO139) hb)
          replace HO143:=aD (Kd.R_below (bN HO143) hb)
          replace BK108:=aD (aU BK108 hb)
          replace BK109:=aD (aU BK109 hb)
          replace BK113:=aD (aU BK113 hb)
          replace BK123:=aD (aU BK123 hb)
          replace BK124:=aD (aU BK124 hb)
          replace BK125:=aD (aU BK125 hb)
          replace BK150:=aD (aU BK150 hb)
          replace HB:=aD (aE (bM HB) hb)
          (try clear hb)
          (try clear hk)
          refine hK.out _ _ ⟨aT BK113 0,aT BK113 1,aT BK113 2,aT BK108 0,aT BK108 1,aT BK108 2,aT BK109 0,aT BK109 1,aT BK109 2,aT BK123 0,aT BK123 1,aT BK123 2,aT BK124 0,aT BK124 1,aT BK124 2,aT BK125 0,aT BK125 1,aT BK125 2,aT BK150 0,aT BK150 1⟩ (fun hHeld=>?_)
          clear hK K
          refine cW (some 114) ?_
          refine cS (i:=49) (N:=some 116) (bm 52 1125899906842623) rfl rfl (bI HT_.out (by kernel_rfl)) (by decide) (fun K hK=>?_)
          refine bP Try.func87 #[.agg #[.int .i64 t148,.int .i64 t149]] ?_
          with_reducible refine (bO t148 t149 t163 t164 t165 _ A108.out).mono ?_
          rintro e w121 ⟨rfl,hb⟩
          refine ⟨_,rfl,?_⟩
          replace HO132:=aD (Kd.R_below (bN HO132) hb)
          replace HO139:=aD (Kd.R_below (bN HO139) hb)
          replace HO143:=aD (Kd.R_below (bN HO143) hb)
          replace BK108:=aD (aU BK108 hb)
          replace BK109:=aD (aU BK109 hb)
          replace BK113:=aD (aU BK113 hb)
          replace BK123:=aD (aU BK123 hb)
          replace BK124:=aD (aU BK124 hb)
          replace BK125:=aD (aU BK125 hb)
          replace BK150:=aD (aU BK150 hb)
          replace HB:=aD (aE (bM HB) hb)
          (try clear hb)
          (try clear hk)
          refine hK.out _ _ ⟨aT BK113 0,aT BK113 1,aT BK113 2,aT BK108 0,aT BK108 1,aT BK108 2,aT BK109 0,aT BK109 1,aT BK109 2,aT BK123 0,aT BK123 1,aT BK123 2,aT BK124 0,aT BK124 1,aT BK124 2,aT BK125 0,aT BK125 1,aT BK125 2,aT BK150 0,aT BK150 1⟩ (fun hHeld=>?_)
          clear hK K
          refine cW (some 116) ?_
          refine dG ((0,50,117,2251799813685247)::(0,51,118,4503599627370495)::[]) ?_
          iterate 2 (first|refine jT HT_ ?_)
          refine bL ?_
          refine dD (dZ HT_.out (by kernel_rfl)) ?_
          try go_wp2
          go_meet
          case rel=>exact ⟨_,((!(t160==t163)||(!(t161==t164)||(!(t162==t165))))),eO,H',⟨by first|omega|exact Nat.le_refl _⟩,⟨by (with_reducible repeat (first|apply fK|apply gF|apply eQ));exact Kd.R_mono HO132.out (fun _ hk=>⟨hk.2.1,⟨hk.2.2.2.1,⟨hk.2.2.2.2.1,⟨hk.2.2.2.2.2.1,⟨hk.2.2.2.2.2.2.1,⟨hk.2.2.2.2.2.2.2.1,hk.2.2.2.2.2.2.2.2⟩⟩⟩⟩⟩⟩)⟩,⟨by (with_reducible repeat (first|apply fK|apply gF|apply eQ));exact Kd.R_mono HO139.out (fun _ hk=>hk.2)⟩,⟨by (with_reducible repeat (first|apply fK|apply gF|apply eQ));exact Kd.R_mono HO143.out (fun _ hk=>⟨hk.1,⟨hk.2.2.2.1,⟨hk.2.2.2.2.1,⟨hk.2.2.2.2.2.1,⟨hk.2.2.2.2.2.2.1,⟨hk.2.2.2.2.2.2.2.1,hk.2.2.2.2.2.2.2.2⟩⟩⟩⟩⟩⟩)⟩,⟨cF BK108⟩,⟨cF BK109⟩,⟨cF BK113⟩,⟨cF BK123⟩,⟨cF BK124⟩,⟨cF BK125⟩,⟨bM HB⟩⟩
        ·replace c92:=Bool.eq_false_iff.mpr c92
         subst c92
         have H1:(bR k t129 t130 t137 t140 t141 true t102 t103 t104 t105 t106 t107 t110 t111 t112 t114 t115 t116 t117 t118 t119 t120 t121 t122)=some true:=by rw [if_neg (show ¬ (false=true) by decide)] at H;exact H
         exact absurd H1 (dN _ _ _ _ _ _ _ _ _ _ _ _ _ _ _ _ _ _ _ _ _ _ _ _)
      ·replace c82:=Bool.eq_false_iff.mpr c82
       subst c82
       have H1:(bR k t129 t130 t137 t140 t141 true t102 t103 t104 t105 t106 t107 t110 t111 t112 t114 t115 t116 t117 t118 t119 t120 t121 t122)=some true:=by rw [if_neg (show ¬ (false=true) by decide)] at H;exact H
       exact absurd H1 (dN _ _ _ _ _ _ _ _ _ _ _ _ _ _ _ _ _ _ _ _ _ _ _ _)
  case rest => as_aux_lemma =>
   clear HC14
   try clear c82
   try clear c83
   obtain ⟨kq,x118_13,rfl,HA,HJ13,HO_10,HO_14,HO_15,BK108,BK109,BK113,BK123,BK124,BK125,HB⟩:=hcut
   cases kq with
   | zero=>exact absurd HA.out (by simp [bR])
   | succ kj13 =>
    have H:=HA.out
    clear HA
    simp only [bR] at H
    by_cases c138:x118_13=true
    ·subst c138
     rw [if_pos rfl] at H
     exact absurd H (by simp)
    ·replace c138 := Bool.eq_false_iff.mpr c138
     subst c138
     rw [if_neg (show ¬ (false=true) by decide)] at H
     replace H:=fQ H
     obtain ⟨⟨t166,t167,t168⟩,A139,H⟩:=H
     try dsimp only at H
     have HC140:=aD H
     clear H
     have hnb141:=NB109_108.out
     have hnc141:=NB108_109.out
     have hnb142:=NB109_113.out
     have hnc142:=NB113_109.out
     have hnb143:=NB109_123.out
     have hnc143:=NB123_109.out
     have hnb144:=NB109_124.out
     have hnc144:=NB124_109.out
     have hnb145:=NB109_125.out
     have hnc145:=NB125_109.out
     have hcz147_0:=aT BK109 0
     have hcz147_1:=aT BK109 1
     have hcz147_2:=aT BK109 2
     have hfz147_0:=aC BK109.out 0
     have hfz147_1:=aC BK109.out 1
     have hfz147_2:=aC BK109.out 2
     have hnb148:=NB108_113.out
     have hnc148:=NB113_108.out
     have hnb149:=NB108_123.out
     have hnc149:=NB123_108.out
     have hnb150:=NB108_124.out
     have hnc150:=NB124_108.out
     have hnb151:=NB108_125.out
     have hnc151:=NB125_108.out
     have hcz153_0:=aT BK108 0
     have hcz153_1:=aT BK108 1
     have hcz153_2:=aT BK108 2
     have hfz153_0:=aC BK108.out 0
     have hfz153_1:=aC BK108.out 1
     have hfz153_2:=aC BK108.out 2
     go_upto_region 16 with (first|((with_reducible refine aV (f:=77) rfl ?_);refine bK (some 121) Try.func77 #[.agg #[.int .i64 t105,.int .i64 t106,.int .i64 t107],.agg #[.int .i64 t102,.int .i64 t103,.int .i64 t104]] ?_;(with_reducible refine (eF kj13 t105 t106 t107 t102 t103 t104 t166 t167 t168 _ A139.out).mono ?_);rintro e w154 ⟨rfl,hb⟩;refine ⟨_,rfl,?_⟩;replace HO_10:=aD (Kd.R_below (bN HO_10) hb);replace HO_14:=aD (Kd.R_below (bN HO_14) hb);replace HO_15:=aD (Kd.R_below (bN HO_15) hb);replace BK108:=aD (aU BK108 hb);replace BK113:=aD (aU BK113 hb);replace BK123:=aD (aU BK123 hb);replace BK124:=aD (aU BK124 hb);replace BK125:=aD (aU BK125 hb);replace HB:=aD (aE (bM HB) hb);(try clear hb);(try clear hk))|((with_reducible refine aW (N:=20) rfl ?_);(try (refine fG (by rfl) ?_;dsimp only));refine bS (N:=20) #[.int .i64 0,.int .i64 0,.int .i64 0] 72 ?_;intro gb169 hg w155 hbox hb;replace HO_10:=aD (Kd.R_below (Kd.R_elderB (bN HO_10) gb169 (Nat.le_of_eq hg.symm)) hb);replace HO_14:=aD (Kd.R_below (bN HO_14) hb);replace HO_15:=aD (Kd.R_below (Kd.R_elderB (bN HO_15) gb169 (Nat.le_of_eq hg.symm)) hb);have BK169:=aD (hbox);have GW169:=aD ((cZ HB hg));have GE169:=aD ((cZ HB hg));replace HB:=aD (aE (bM HB) hb);have NB108_169:=aD ((bW BK108 hg));have NB169_108:=aD ((bX BK108 hg));replace BK108:=aD (aU BK108 hb);have NB113_169:=aD ((bW BK113 hg));have NB169_113:=aD ((bX BK113 hg));replace BK113:=aD (aU BK113 hb);have NB123_169:=aD ((bW BK123 hg));have NB169_123:=aD ((bX BK123 hg));replace BK123:=aD (aU BK123 hb);have NB124_169:=aD ((bW BK124 hg));have NB169_124:=aD ((bX BK124 hg));replace BK124:=aD (aU BK124 hb);have NB125_169:=aD ((bW BK125 hg));have NB169_125:=aD ((bX BK125 hg));replace BK125:=aD (aU BK125 hb);clear hb hbox hg;have hnb156:=NB169_108.out;have hnc156:=NB108_169.out;have hnb158:=NB169_113.out;have hnc158:=NB113_169.out;have hnb159:=NB169_123.out;have hnc159:=NB123_169.out;have hnb160:=NB169_124.out;have hnc160:=NB124_169.out;have hnb161:=NB169_125.out;have hnc161:=NB125_169.out;have hcz163_0:=aT BK169 0;have hcz163_1:=aT BK169 1;have hcz163_2:=aT BK169 2;have hfz163_0:=aC BK169.out 0;have hfz163_1:=aC BK169.out 1;have hfz163_2:=aC BK169.out 2))
     (try simp only [Act.put,List.setIfInBounds_toArray,List.set_cons_zero,List.set_cons_succ])
     go_cut [174] (fun v174 wc=>∃ (kq:Nat) (x174_139:Bool),v174=.bool x174_139∧Aside0 (cQ kq t129 t130 t137 t140 t141 x174_139=some true)∧Aside0 (kq≤kj13)∧Aside0 (Kd.R gG 72 wc w.heap.size (fun k_=>some k_≠(v142:Value).ownBlock∧k_≠gb108∧k_≠gb109∧k_≠gb113∧k_≠gb123∧k_≠gb124∧k_≠gb125∧k_≠gb169) v131 t129)∧Aside0 (Kd.R gA 80 wc w.heap.size (fun k_=>k_≠gb150) (.slice Ao50 t137.length co50) t137)∧Aside0 (Kd.R gG 72 wc w.heap.size (fun k_=>some k_≠(v131:Value).ownBlock∧k_≠gb108∧k_≠gb109∧k_≠gb113∧k_≠gb123∧k_≠gb124∧k_≠gb125∧k_≠gb169) v142 t140)∧Aside0 (Below w.heap.size w wc))
     case first => as_aux_lemma =>
      have H:=HC140.out
      clear HC140
      replace H:=kK H
      rcases H with ⟨c164,H⟩|⟨c164,H⟩
      ·have c164b0:(t166==(wrap64 (-t110)))=true:=beq_iff_eq.mpr c164
       have c164b1:(t166 != (wrap64 (-t110)))=false:=bne_eq_false_iff_eq.mpr c164
       clear c164
       (first|rw [c164b0]|(simp only [aZ,bB];rw [c164b0])|skip)
       replace H:=kK H
       rcases H with ⟨c165,H⟩|⟨c165,H⟩
       ·have c165b0:(t167==(wrap64 (-t111)))=true:=beq_iff_eq.mpr c165
        have c165b1:(t167 != (wrap64 (-t111)))=false:=bne_eq_false_iff_eq.mpr c165
        clear c165
        replace H:=kK H
        rcases H with ⟨c166,H⟩|⟨c166,H⟩
        ·have c166b0:(t168==(wrap64 (-t112)))=true:=beq_iff_eq.mpr c166
         have c166b1:(t168 != (wrap64 (-t112)))=false:=bne_eq_false_iff_eq.mpr c166
         clear c166
         replace H:=kK H
         rcases H with ⟨c167,H⟩|⟨c167,H⟩
         ·have c167b0:((wrap64 ((wrap64 ((wrap64 (t102*t110))+(wrap64 (t103*t111))))+(wrap64 (t104*t112))))==0)=true:=beq_iff_eq.mpr c167
          have c167b1:((wrap64 ((wrap64 ((wrap64 (t102*t110))+(wrap64 (t103*t111))))+(wrap64 (t104*t112)))) != 0)=false:=bne_eq_false_iff_eq.mpr c167
          clear c167
          replace H:=fQ H
          obtain ⟨t170,A168,H⟩:=H
          replace H:=fQ H
          obtain ⟨t171,A169,H⟩:=H
          have H':=aD H
          clear H
          try go_wp2
          replace HO_10:Aside0 (Kd.R gG 72 (((w155.setCell ⟨gb169,0,none⟩ (.int .i64 t166)).setCell ⟨gb169,1,none⟩ (.int .i64 t167)).setCell ⟨gb169,2,none⟩ (.int .i64 t168)) w.heap.size (fun k_=>some k_≠(v142:Value).ownBlock∧k_≠gb108∧k_≠gb109∧k_≠gb113∧k_≠gb123∧k_≠gb124∧k_≠gb125∧k_≠gb169) v131 t129):=⟨by (with_reducible repeat (first|apply fK|apply gF|apply eQ));exact Kd.R_mono (Kd.R_far (p:=⟨gb169,2,none⟩) (Kd.R_far (p:=⟨gb169,1,none⟩) (Kd.R_far (p:=⟨gb169,0,none⟩) (Kd.R_mono HO_10.out (fun k_ hk=>(⟨hk,hk.2⟩:_∧k_≠gb169))) (fun _ hk=>hk.2) (.int .i64 t166)) (fun _ hk=>hk.2) (.int .i64 t167)) (fun _ hk=>hk.2) (.int .i64 t168)) (fun _ hk=>⟨hk.1.1.1,⟨hk.1.1.2.1,⟨hk.1.1.2.2.1,⟨hk.1.1.2.2.2.1,⟨hk.1.1.2.2.2.2.1,⟨hk.1.1.2.2.2.2.2.1,⟨hk.1.1.2.2.2.2.2.2,hk.1.2⟩⟩⟩⟩⟩⟩⟩)⟩
          replace HO_14:Aside0 (Kd.R gA 80 (((w155.setCell ⟨gb169,0,none⟩ (.int .i64 t166)).setCell ⟨gb169,1,none⟩ (.int .i64 t167)).setCell ⟨gb169,2,none⟩ (.int .i64 t168)) w.heap.size (fun k_=>k_≠gb150) (.slice Ao50 t137.length co50) t137):=⟨by (with_reducible repeat (first|apply fK|apply gF|apply eQ));exact Kd.R_mono (Kd.R_far (p:=⟨gb169,2,none⟩) (Kd.R_far (p:=⟨gb169,1,none⟩) (Kd.R_far (p:=⟨gb169,0,none⟩) (Kd.R_types HO_14.out BK169.out (by decide)) (fun _ hk=>hk.2) (.int .i64 t166)) (fun _ hk=>hk.2) (.int .i64 t167)) (fun _ hk=>hk.2) (.int .i64 t168)) (fun _ hk=>hk.1)⟩
          replace HO_15:Aside0 (Kd.R gG 72 (((w155.setCell ⟨gb169,0,none⟩ (.int .i64 t166)).setCell ⟨gb169,1,none⟩ (.int .i64 t167)).setCell ⟨gb169,2,none⟩ (.int .i64 t168)) w.heap.size (fun k_=>some k_≠(v131:Value).ownBlock∧k_≠gb108∧k_≠gb109∧k_≠gb113∧k_≠gb123∧k_≠gb124∧k_≠gb125∧k_≠gb169) v142 t140):=⟨by (with_reducible repeat (first|apply fK|apply gF|apply eQ));exact Kd.R_mono (Kd.R_far (p:=⟨gb169,2,none⟩) (Kd.R_far (p:=⟨gb169,1,none⟩) (Kd.R_far (p:=⟨gb169,0,none⟩) (Kd.R_mono HO_15.out (fun k_ hk=>(⟨hk,hk.2⟩:_∧k_≠gb169))) (fun _ hk=>hk.2) (.int .i64 t166)) (fun _ hk=>hk.2) (.int .i64 t167)) (fun _ hk=>hk.2) (.int .i64 t168)) (fun _ hk=>⟨hk.1.1.1,⟨hk.1.1.2.1,⟨hk.1.1.2.2.1,⟨hk.1.1.2.2.2.1,⟨hk.1.1.2.2.2.2.1,⟨hk.1.1.2.2.2.2.2.1,⟨hk.1.1.2.2.2.2.2.2,hk.1.2⟩⟩⟩⟩⟩⟩⟩)⟩
          replace BK108:Aside0 ((((w155.setCell ⟨gb169,0,none⟩ (.int .i64 t166)).setCell ⟨gb169,1,none⟩ (.int .i64 t167)).setCell ⟨gb169,2,none⟩ (.int .i64 t168)).heap[gb108]? = some (.cells #[.int .i64 t102,.int .i64 t103,.int .i64 t104] 72 (0,0))):=⟨eW BK108⟩
          replace BK113:Aside0 ((((w155.setCell ⟨gb169,0,none⟩ (.int .i64 t166)).setCell ⟨gb169,1,none⟩ (.int .i64 t167)).setCell ⟨gb169,2,none⟩ (.int .i64 t168)).heap[gb113]? = some (.cells #[.int .i64 t110,.int .i64 t111,.int .i64 t112] 72 (0,0))):=⟨eW BK113⟩
          replace BK123:Aside0 ((((w155.setCell ⟨gb169,0,none⟩ (.int .i64 t166)).setCell ⟨gb169,1,none⟩ (.int .i64 t167)).setCell ⟨gb169,2,none⟩ (.int .i64 t168)).heap[gb123]? = some (.cells #[.int .i64 t114,.int .i64 t115,.int .i64 t116] 72 (0,0))):=⟨eW BK123⟩
          replace BK124:Aside0 ((((w155.setCell ⟨gb169,0,none⟩ (.int .i64 t166)).setCell ⟨gb169,1,none⟩ (.int .i64 t167)).setCell ⟨gb169,2,none⟩ (.int .i64 t168)).heap[gb124]? = some (.cells #[.int .i64 t117,.int .i64 t118,.int .i64 t119] 72 (0,0))):=⟨eW BK124⟩
          replace BK125:Aside0 ((((w155.setCell ⟨gb169,0,none⟩ (.int .i64 t166)).setCell ⟨gb169,1,none⟩ (.int .i64 t167)).setCell ⟨gb169,2,none⟩ (.int .i64 t168)).heap[gb125]? = some (.cells #[.int .i64 t120,.int .i64 t121,.int .i64 t122] 72 (0,0))):=⟨eW BK125⟩
          replace BK169:Aside0 ((((w155.setCell ⟨gb169,0,none⟩ (.int .i64 t166)).setCell ⟨gb169,1,none⟩ (.int .i64 t167)).setCell ⟨gb169,2,none⟩ (.int .i64 t168)).heap[gb169]? = some (.cells #[.int .i64 t166,.int .i64 t167,.int .i64 t168] 72 (0,0))):=⟨eW BK169⟩
          replace HB:Aside0 (Below w.heap.size w (((w155.setCell ⟨gb169,0,none⟩ (.int .i64 t166)).setCell ⟨gb169,1,none⟩ (.int .i64 t167)).setCell ⟨gb169,2,none⟩ (.int .i64 t168))):=⟨bM HB⟩
          generalize (((w155.setCell ⟨gb169,0,none⟩ (.int .i64 t166)).setCell ⟨gb169,1,none⟩ (.int .i64 t167)).setCell ⟨gb169,2,none⟩ (.int .i64 t168))=w170 at HO_10 HO_14 HO_15 BK108 BK113 BK123 BK124 BK125 BK169 HB ⊢
          replace HO_10:=aD (eQ HO_10.out)
          replace HO_14:=aD (eQ HO_14.out)
          replace HO_15:=aD (eQ HO_15.out)
          replace BK108:=aD (aK BK108.out)
          replace BK113:=aD (aK BK113.out)
          replace BK123:=aD (aK BK123.out)
          replace BK124:=aD (aK BK124.out)
          replace BK125:=aD (aK BK125.out)
          replace BK169:=aD (aK BK169.out)
          replace HB:=aD (lC HB.out)
          refine eE (n:=53) (S:=fun w'=>w'.cell? ⟨gb169,0,none⟩=some (.int .i64 t166)∧w'.cell? ⟨gb169,1,none⟩=some (.int .i64 t167)∧w'.cell? ⟨gb169,2,none⟩=some (.int .i64 t168)∧w'.cell? ⟨gb113,0,none⟩=some (.int .i64 t110)∧w'.cell? ⟨gb113,1,none⟩=some (.int .i64 t111)∧w'.cell? ⟨gb113,2,none⟩=some (.int .i64 t112)∧w'.cell? ⟨gb108,0,none⟩=some (.int .i64 t102)∧w'.cell? ⟨gb108,1,none⟩=some (.int .i64 t103)∧w'.cell? ⟨gb108,2,none⟩=some (.int .i64 t104)∧w'.cell? ⟨gb123,0,none⟩=some (.int .i64 t114)∧w'.cell? ⟨gb123,1,none⟩=some (.int .i64 t115)∧w'.cell? ⟨gb123,2,none⟩=some (.int .i64 t116)∧w'.cell? ⟨gb124,0,none⟩=some (.int .i64 t117)∧w'.cell? ⟨gb124,1,none⟩=some (.int .i64 t118)∧w'.cell? ⟨gb124,2,none⟩=some (.int .i64 t119)∧w'.cell? ⟨gb125,0,none⟩=some (.int .i64 t120)∧w'.cell? ⟨gb125,1,none⟩=some (.int .i64 t121)∧w'.cell? ⟨gb125,2,none⟩=some (.int .i64 t122)) (ds:=[]) (bm 53 0) (by kernel_rfl) rfl rfl ⟨aT BK169 0,aT BK169 1,aT BK169 2,aT BK113 0,aT BK113 1,aT BK113 2,aT BK108 0,aT BK108 1,aT BK108 2,aT BK123 0,aT BK123 1,aT BK123 2,aT BK124 0,aT BK124 1,aT BK124 2,aT BK125 0,aT BK125 1,aT BK125 2⟩ (fun hHeld=>?_);refine cX mV lW (fun HT_ HW_=>?_)
          generalize w170.drew=w171 at HO_10 HO_14 HO_15 BK108 BK113 BK123 BK124 BK125 BK169 HB hHeld ⊢
          refine dG ((0,0,122,1)::(0,2,124,5)::(2,1,123,7)::(2,3,125,15)::(0,4,126,31)::(0,5,127,63)::(0,6,128,127)::(0,7,129,255)::(0,9,131,767)::(2,8,130,1023)::(2,10,132,2047)::(0,11,133,4095)::(0,12,134,8191)::(0,13,135,16383)::(0,14,136,32767)::(0,15,137,65535)::(0,17,139,196607)::(2,16,138,262143)::(2,18,140,524287)::(0,19,141,1048575)::(0,20,142,2097151)::(0,21,143,4194303)::(0,22,144,8388607)::(0,23,145,16777215)::(0,25,147,50331647)::(0,28,150,318767103)::(0,30,152,1392508927)::(0,34,156,18572378111)::(0,36,158,87291854847)::(2,24,146,87308632063)::(2,26,148,87375740927)::(0,27,149,87509958655)::(2,29,151,88046829567)::(2,31,153,90194313215)::(0,32,154,94489280511)::(0,33,155,103079215103)::(2,35,157,137438953471)::(2,37,159,274877906943)::(0,38,160,549755813887)::(0,39,161,1099511627775)::(0,40,162,2199023255551)::(0,41,163,4398046511103)::(0,42,164,8796093022207)::(2,43,165,17592186044415)::(2,44,166,35184372088831)::(2,45,167,70368744177663)::(2,47,169,211106232532991)::(2,48,170,492581209243647)::(2,49,171,1055531162664959)::[]) ?_
          iterate 49 (first|refine jT HT_ ?_|refine qB HT_ HW_ hHeld ?_)
          refine bL ?_
          refine cS (i:=46) (N:=some 168) (bm 53 1125899906842623) rfl rfl (bI HT_.out (by kernel_rfl)) (by decide) (fun K hK=>?_)
          refine bP Try.func83 #[.agg #[.int .i64 t114,.int .i64 t115,.int .i64 t116],.agg #[.int .i64 t117,.int .i64 t118,.int .i64 t119],.agg #[.int .i64 t120,.int .i64 t121,.int .i64 t122]] ?_
          with_reducible refine (fC t114 t115 t116 t117 t118 t119 t120 t121 t122 t170 _ A168.out).mono ?_
          rintro e w172 ⟨rfl,hb⟩
          refine ⟨_,rfl,?_⟩
          replace HO_10:=aD (Kd.R_below (bN HO_10) hb)
          replace HO_14:=aD (Kd.R_below (bN HO_14) hb)
          replace HO_15:=aD (Kd.R_below (bN HO_15) hb)
          replace BK108:=aD (aU BK108 hb)
          replace BK113:=aD (aU BK113 hb)
          replace BK123:=aD (aU BK123 hb)
          replace BK124:=aD (aU BK124 hb)
          replace BK125:=aD (aU BK125 hb)
          replace BK169:=aD (aU BK169 hb)
          replace HB:=aD (aE (bM HB) hb)
          (try clear hb)
          (try clear hk)
          refine hK.out _ _ ⟨aT BK169 0,aT BK169 1,aT BK169 2,aT BK113 0,aT BK113 1,aT BK113 2,aT BK108 0,aT BK108 1,aT BK108 2,aT BK123 0,aT BK123 1,aT BK123 2,aT BK124 0,aT BK124 1,aT BK124 2,aT BK125 0,aT BK125 1,aT BK125 2⟩ (fun hHeld=>?_)
          clear hK K
          refine cW (some 168) ?_
          refine cS (i:=50) (N:=some 172) (bm 53 2251799813685247) rfl rfl (bI HT_.out (by kernel_rfl)) (by decide) (fun K hK=>?_)
          refine bP Try.func83 #[.agg #[.int .i64 t120,.int .i64 t121,.int .i64 t122],.agg #[.int .i64 t114,.int .i64 t115,.int .i64 t116],.agg #[.int .i64 t117,.int .i64 t118,.int .i64 t119]] ?_
          with_reducible refine (fC t120 t121 t122 t114 t115 t116 t117 t118 t119 t171 _ A169.out).mono ?_
          rintro e w173 ⟨rfl,hb⟩
          refine ⟨_,rfl,?_⟩
          replace HO_10:=aD (Kd.R_below (bN HO_10) hb)
          replace HO_14:=aD (Kd.R_below (bN HO_14) hb)
          replace HO_15:=aD (Kd.R_below (bN HO_15) hb)
          replace BK108:=aD (aU BK108 hb)
          replace BK113:=aD (aU BK113 hb)
          replace BK123:=aD (aU BK123 hb)
          replace BK124:=aD (aU BK124 hb)
          replace BK125:=aD (aU BK125 hb)
          replace BK169:=aD (aU BK169 hb)
          replace HB:=aD (aE (bM HB) hb)
          (try clear hb)
          (try clear hk)
          refine hK.out _ _ ⟨aT BK169 0,aT BK169 1,aT BK169 2,aT BK113 0,aT BK113 1,aT BK113 2,aT BK108 0,aT BK108 1,aT BK108 2,aT BK123 0,aT BK123 1,aT BK123 2,aT BK124 0,aT BK124 1,aT BK124 2,aT BK125 0,aT BK125 1,aT BK125 2⟩ (fun hHeld=>?_)
          clear hK K
          refine cW (some 172) ?_
          refine dG ((0,51,173,4503599627370495)::(0,52,174,9007199254740991)::[]) ?_
          iterate 2 (first|refine jT HT_ ?_)
          refine bL ?_
          refine dD (dZ HT_.out (by kernel_rfl)) ?_
          try go_wp2
          go_meet
          case rel=>exact ⟨_,((t170 != t171)),eO,H',⟨EN HJ13⟩,⟨bN HO_10⟩,⟨bN HO_14⟩,⟨bN HO_15⟩,⟨bM HB⟩⟩
         ·exact absurd H (fU _ _ _ _ _ _)
        ·exact absurd H (fU _ _ _ _ _ _)
       ·exact absurd H (fU _ _ _ _ _ _)
      ·exact absurd H (fU _ _ _ _ _ _)
     case rest => as_aux_lemma =>
      clear HC140
      try clear c164
      try clear c164b0
      try clear c164b1
      obtain ⟨kq,x174_139,rfl,HA,HJ139,HO_10,HO_14,HO_15,HB⟩:=hcut
      cases kq with
      | zero=>exact absurd HA.out (by simp [cQ])
      | succ kj139 =>
       have H:=HA.out
       clear HA
       simp only [cQ] at H
       by_cases c182:x174_139=true
       ·subst c182
        rw [if_pos rfl] at H
        exact absurd H (by simp)
       ·replace c182 := Bool.eq_false_iff.mpr c182
        subst c182
        rw [if_neg (show ¬ (false=true) by decide)] at H
        have HC183:=aD H
        clear H
        go_upto_region 18 with (fail)
        go_cut [193] (fun v193 wc=>∃ (kq:Nat) (x193_182:Bool),v193=.bool x193_182∧Aside0 (dC kq t137 t140 t141 x193_182=some true)∧Aside0 (kq≤kj139)∧Aside0 (Kd.R gA 80 wc w.heap.size (fun k_=>k_≠gb150) (.slice Ao50 t137.length co50) t137)∧Aside0 (Kd.R gG 72 wc w.heap.size (fun k_=>k_≠gb108∧k_≠gb109∧k_≠gb113∧k_≠gb123∧k_≠gb124∧k_≠gb125∧k_≠gb169) v142 t140)∧Aside0 (Below w.heap.size w wc))
        case first=>as_aux_lemma =>
         have H:=HC183.out
         clear HC183
         by_cases c184:t130=true
         ·subst c184
          rw [if_pos rfl] at H
          replace H:=kK H
          rcases H with ⟨c185,H⟩|⟨c185,H⟩
          ·have c185b0:((t129.length:Int)==3)=true:=beq_iff_eq.mpr c185
           have c185b1:((t129.length:Int) != 3)=false:=bne_eq_false_iff_eq.mpr c185
           clear c185
           (first|rw [c185b0]|(simp only [aZ,bB];rw [c185b0])|skip)
           obtain ⟨c186,H⟩:=iC H
           have c186b0:=decide_eq_true c186
           have c186b1:decide (0<t129.length)=true:=decide_eq_true (by omega)
           clear c186
           obtain ⟨c187,H⟩:=iC H
           have c187b0:=decide_eq_true c187
           have c187b1:decide (1<t129.length)=true:=decide_eq_true (by omega)
           clear c187
           obtain ⟨c188,H⟩:=iC H
           have c188b0:=decide_eq_true c188
           have c188b1:decide (2<t129.length)=true:=decide_eq_true (by omega)
           clear c188
           replace H:=fQ H
           obtain ⟨t175,A189,H⟩:=H
           have H':=aD H
           clear H
           try go_wp2
           replace HO_10:=aD (eQ HO_10.out)
           replace HO_14:=aD (eQ HO_14.out)
           replace HO_15:=aD (eQ HO_15.out)
           replace HB:=aD (lC HB.out)
           obtain ⟨Ao191,co191,eo191⟩:=Kd.R_slice HO_10.out
           (first|subst eo191|(injection eo191 with f1_ f2_ f3_;have f4_:=f1_.symm;have f5_:=f3_.symm;clear f1_ f2_ f3_;subst f4_;subst f5_))
           have p172:0≤(0:Int):=(by omega)
           have q172:0<(t129.length:Int):=dX
           obtain ⟨ad172,e172,hx172_0,hx172_1,hx172_2⟩:=dJ (Kd.R_reads' HO_10.out).2.2 0 p172 q172
           cases e172
           have qi172:(0<t129.length)=True:=eq_true (by omega)
           (try rw [show ((0:Int)).toNat=0 from rfl] at hx172_0)
           (try rw [show 0*3=0 from rfl] at hx172_0)
           (try rw [Addr.add_zero'] at hx172_0)
           (try rw [show ((0:Int)).toNat=0 from rfl] at hx172_1)
           (try rw [show 0*3=0 from rfl] at hx172_1)
           (try rw [Addr.add_zero'] at hx172_1)
           (try rw [show ((0:Int)).toNat=0 from rfl] at hx172_2)
           (try rw [show 0*3=0 from rfl] at hx172_2)
           (try rw [Addr.add_zero'] at hx172_2)
           replace p172:=eq_true p172
           replace q172:=eq_true q172
           have p173:0≤(1:Int):=(by omega)
           have q173:1<(t129.length:Int):=dX
           obtain ⟨ad173,e173,hx173_0,hx173_1,hx173_2⟩:=dJ (Kd.R_reads' HO_10.out).2.2 1 p173 q173
           obtain rfl:ad172=ad173:=(by injection e173)
           (try simp only [show (1:Int).toNat=1 from rfl,Nat.reduceMul,Nat.reduceEqDiff,Go.Addr.add,↓reduceIte] at hx173_0)
           (try simp only [show (1:Int).toNat=1 from rfl,Nat.reduceMul,Nat.reduceEqDiff,Go.Addr.add,↓reduceIte] at hx173_1)
           (try simp only [show (1:Int).toNat=1 from rfl,Nat.reduceMul,Nat.reduceEqDiff,Go.Addr.add,↓reduceIte] at hx173_2)
           have qi173:(1<t129.length)=True:=eq_true (by omega)
           (try rw [show ((1:Int)).toNat=1 from rfl] at hx173_0)
           (try rw [show 1*3=3 from rfl] at hx173_0)
           (try rw [show ((1:Int)).toNat=1 from rfl] at hx173_1)
           (try rw [show 1*3=3 from rfl] at hx173_1)
           (try rw [show ((1:Int)).toNat=1 from rfl] at hx173_2)
           (try rw [show 1*3=3 from rfl] at hx173_2)
           replace p173:=eq_true p173
           replace q173:=eq_true q173
           have p174:0≤(2:Int):=(by omega)
           have q174:2<(t129.length:Int):=dX
           obtain ⟨ad174,e174,hx174_0,hx174_1,hx174_2⟩:=dJ (Kd.R_reads' HO_10.out).2.2 2 p174 q174
           obtain rfl:ad172=ad174:=(by injection e174)
           (try simp only [show (2:Int).toNat=2 from rfl,Nat.reduceMul,Nat.reduceEqDiff,Go.Addr.add,↓reduceIte] at hx174_0)
           (try simp only [show (2:Int).toNat=2 from rfl,Nat.reduceMul,Nat.reduceEqDiff,Go.Addr.add,↓reduceIte] at hx174_1)
           (try simp only [show (2:Int).toNat=2 from rfl,Nat.reduceMul,Nat.reduceEqDiff,Go.Addr.add,↓reduceIte] at hx174_2)
           have qi174:(2<t129.length)=True:=eq_true (by omega)
           (try rw [show ((2:Int)).toNat=2 from rfl] at hx174_0)
           (try rw [show 2*3=6 from rfl] at hx174_0)
           (try rw [show ((2:Int)).toNat=2 from rfl] at hx174_1)
           (try rw [show 2*3=6 from rfl] at hx174_1)
           (try rw [show ((2:Int)).toNat=2 from rfl] at hx174_2)
           (try rw [show 2*3=6 from rfl] at hx174_2)
           replace p174:=eq_true p174
           replace q174:=eq_true q174
           refine eE (n:=19) (S:=fun w'=>w'.cell? ad172=some (.int .i64 ((aI t129 0).f0))∧w'.cell? ⟨ad172.block,ad172.off+1,none⟩=some (.int .i64 ((aI t129 0).f1))∧w'.cell? ⟨ad172.block,ad172.off+2,none⟩=some (.int .i64 ((aI t129 0).f2))∧w'.cell? ⟨ad172.block,ad172.off+3,none⟩=some (.int .i64 ((aI t129 1).f0))∧w'.cell? ⟨ad172.block,ad172.off+3+1,none⟩=some (.int .i64 ((aI t129 1).f1))∧w'.cell? ⟨ad172.block,ad172.off+3+2,none⟩=some (.int .i64 ((aI t129 1).f2))∧w'.cell? ⟨ad172.block,ad172.off+6,none⟩=some (.int .i64 ((aI t129 2).f0))∧w'.cell? ⟨ad172.block,ad172.off+6+1,none⟩=some (.int .i64 ((aI t129 2).f1))∧w'.cell? ⟨ad172.block,ad172.off+6+2,none⟩=some (.int .i64 ((aI t129 2).f2))) (ds:=[]) (bm 19 0) (by kernel_rfl) rfl rfl ⟨hx172_0,hx172_1,hx172_2,hx173_0,hx173_1,hx173_2,hx174_0,hx174_1,hx174_2⟩ (fun hHeld=>?_);refine cX jB iU (fun HT_ HW_=>?_)
           generalize wc.drew=w190 at HO_14 HO_15 HB hx172_0 hx172_1 hx172_2 hx173_0 hx173_1 hx173_2 hx174_0 hx174_1 hx174_2 hHeld ⊢
           refine dG ((0,0,175,1)::(0,1,176,3)::(0,2,177,7)::(0,3,178,15)::(0,4,179,31)::(0,5,180,63)::(0,6,181,127)::(0,7,182,255)::(0,9,184,767)::(0,10,185,1791)::(0,12,187,5887)::(0,13,188,14079)::(2,8,183,14335)::(2,11,186,16383)::(2,14,189,32767)::[]) ?_
           iterate 15 (first|refine jT HT_ ?_|refine qB HT_ HW_ hHeld ?_)
           refine bL ?_
           refine cS (i:=15) (N:=some 190) (bm 19 65535) rfl rfl (bI HT_.out (by kernel_rfl)) (by decide) (fun K hK=>?_)
           refine bP Try.func83 #[.agg #[.int .i64 ((aI t129 0).f0),.int .i64 ((aI t129 0).f1),.int .i64 ((aI t129 0).f2)],.agg #[.int .i64 ((aI t129 1).f0),.int .i64 ((aI t129 1).f1),.int .i64 ((aI t129 1).f2)],.agg #[.int .i64 ((aI t129 2).f0),.int .i64 ((aI t129 2).f1),.int .i64 ((aI t129 2).f2)]] ?_
           with_reducible refine (fC ((aI t129 0).f0) ((aI t129 0).f1) ((aI t129 0).f2) ((aI t129 1).f0) ((aI t129 1).f1) ((aI t129 1).f2) ((aI t129 2).f0) ((aI t129 2).f1) ((aI t129 2).f2) t175 _ A189.out).mono ?_
           rintro e w192 ⟨rfl,hb⟩
           have HS0_:=cP hb hHeld.1
           have HS1_:=cP hb hHeld.2.1
           have HS2_:=cP hb hHeld.2.2.1
           have HS3_:=cP hb hHeld.2.2.2.1
           have HS4_:=cP hb hHeld.2.2.2.2.1
           have HS5_:=cP hb hHeld.2.2.2.2.2.1
           have HS6_:=cP hb hHeld.2.2.2.2.2.2.1
           have HS7_:=cP hb hHeld.2.2.2.2.2.2.2.1
           have HS8_:=cP hb hHeld.2.2.2.2.2.2.2.2
           refine ⟨_,rfl,?_⟩
           replace HO_14:=aD (Kd.R_below (bN HO_14) hb)
           replace HO_15:=aD (Kd.R_below (bN HO_15) hb)
           replace HB:=aD (aE (bM HB) hb)
           (try clear hb)
           (try clear hk)
           refine hK.out _ _ ⟨HS0_,HS1_,HS2_,HS3_,HS4_,HS5_,HS6_,HS7_,HS8_⟩ (fun hHeld=>?_)
           clear hK K
           refine cW (some 190) ?_
           refine dG ((0,16,191,131071)::(0,17,192,262143)::(0,18,193,524287)::[]) ?_
           iterate 3 (first|refine jT HT_ ?_)
           refine bL ?_
           refine dD (dZ HT_.out (by kernel_rfl)) ?_
           try go_wp2
           go_meet
           case rel=>exact ⟨_,(!t175),eO,H',⟨by have:=HJ13.out;have:=HJ139.out;first|omega|exact Nat.le_refl _⟩,⟨bN HO_14⟩,⟨by (with_reducible repeat (first|apply fK|apply gF|apply eQ));exact Kd.R_mono HO_15.out (fun _ hk=>⟨hk.2.1,⟨hk.2.2.1,⟨hk.2.2.2.1,⟨hk.2.2.2.2.1,⟨hk.2.2.2.2.2.1,⟨hk.2.2.2.2.2.2.1,hk.2.2.2.2.2.2.2⟩⟩⟩⟩⟩⟩)⟩,⟨bM HB⟩⟩
          ·exact absurd H (mH _ _ _ _)
         ·replace c184:=Bool.eq_false_iff.mpr c184
          subst c184
          rw [if_neg (show ¬ (false=true) by decide)] at H
          have H':=aD H
          clear H
          try go_wp2
          replace HO_14:=aD (eQ HO_14.out)
          replace HO_15:=aD (eQ HO_15.out)
          replace HB:=aD (lC HB.out)
          refine eE (n:=19) (S:=fun w'=>True) (ds:=[]) (bm 19 0) (by kernel_rfl) rfl rfl trivial (fun hHeld=>?_);refine cX jB iU (fun HT_ HW_=>?_)
          generalize wc.drew=w195 at HO_14 HO_15 HB hHeld ⊢
          refine dG ((0,0,175,1)::(0,1,176,3)::(1,2,177,7)::(1,3,178,15)::(1,4,179,31)::(1,5,180,63)::(1,6,181,127)::(1,7,182,255)::(1,8,183,511)::(1,9,184,1023)::(1,10,185,2047)::(1,11,186,4095)::(1,12,187,8191)::(1,13,188,16383)::(1,14,189,32767)::(1,15,190,65535)::(1,16,191,131071)::(1,17,192,262143)::(0,18,193,524287)::[]) ?_
          iterate 19 (first|refine jT HT_ ?_|(refine xY undef ?_ rfl rfl (wB HT_.out (by kernel_rfl)) (fun _ _ _ h=>h) (Or.inr ⟨by rfl,rfl⟩) ?_ ?_;rotate_left 1;(· simp only [Act.put,List.setIfInBounds_toArray,List.set_cons_zero,List.set_cons_succ,aZ,bB];rfl)))
          refine bL ?_
          refine dD (dZ HT_.out (by kernel_rfl)) ?_
          try go_wp2
          go_meet
          case rel=>exact ⟨_,(false),eO,H',⟨by have:=HJ13.out;have:=HJ139.out;first|omega|exact Nat.le_refl _⟩,⟨bN HO_14⟩,⟨by (with_reducible repeat (first|apply fK|apply gF|apply eQ));exact Kd.R_mono HO_15.out (fun _ hk=>⟨hk.2.1,⟨hk.2.2.1,⟨hk.2.2.2.1,⟨hk.2.2.2.2.1,⟨hk.2.2.2.2.2.1,⟨hk.2.2.2.2.2.2.1,hk.2.2.2.2.2.2.2⟩⟩⟩⟩⟩⟩)⟩,⟨bM HB⟩⟩
        case rest => as_aux_lemma =>
         clear HC183
         try clear c83
         try clear p172
         try clear q172
         try clear qi172
         try clear p173
         try clear q173
         try clear qi173
         try clear p174
         try clear q174
         try clear qi174
         try clear c184
         try clear c185
         try clear c185b0
         try clear c185b1
         try clear c186
         try clear c187
         try clear c188
         try clear hx172_0
         try clear hx172_1
         try clear hx172_2
         try clear hx173_0
         try clear hx173_1
         try clear hx173_2
         try clear hx174_0
         try clear hx174_1
         try clear hx174_2
         obtain ⟨kq,x193_182,rfl,HA,HJ182,HO_14,HO_15,HB⟩:=hcut
         cases kq with
         | zero=>exact absurd HA.out (by simp [dC])
         | succ kj182 =>
          have H:=HA.out
          clear HA
          simp only [dC] at H
          by_cases c196:x193_182=true
          ·subst c196
           rw [if_pos rfl] at H
           exact absurd H (by simp)
          ·replace c196:=Bool.eq_false_iff.mpr c196
           subst c196
           rw [if_neg (show ¬ (false=true) by decide)] at H
           by_cases c197:t141=true
           ·subst c197
            rw [if_pos rfl] at H
            obtain ⟨c198,H⟩:=iC H
            have c198b0:=decide_eq_true c198
            have c198b1:decide (0<t137.length)=true:=decide_eq_true (by omega)
            clear c198
            replace H:=fQ H
            obtain ⟨⟨t178,t179,t180⟩,A199,H⟩:=H
            try dsimp only at H
            obtain ⟨c200,H⟩:=iC H
            have c200b0:=decide_eq_true c200
            have c200b1:decide (3<t137.length)=true:=decide_eq_true (by omega)
            clear c200
            replace H:=fQ H
            obtain ⟨⟨t182,t183,t184⟩,A201,H⟩:=H
            try dsimp only at H
            replace H:=fQ H
            obtain ⟨⟨t185,t186,t187⟩,A202,H⟩:=H
            try dsimp only at H
            obtain ⟨c203,H⟩:=iC H
            have c203b0:=decide_eq_true c203
            have c203b1:decide (1<t137.length)=true:=decide_eq_true (by omega)
            clear c203
            replace H:=fQ H
            obtain ⟨⟨t190,t191,t192⟩,A204,H⟩:=H
            try dsimp only at H
            obtain ⟨c205,H⟩:=iC H
            have c205b0:=decide_eq_true c205
            have c205b1:decide (4<t137.length)=true:=decide_eq_true (by omega)
            clear c205
            replace H:=fQ H
            obtain ⟨⟨t194,t195,t196⟩,A206,H⟩:=H
            try dsimp only at H
            replace H:=fQ H
            obtain ⟨⟨t197,t198,t199⟩,A207,H⟩:=H
            try dsimp only at H
            obtain ⟨c208,H⟩:=iC H
            have c208b0:=decide_eq_true c208
            have c208b1:decide (2<t137.length)=true:=decide_eq_true (by omega)
            clear c208
            replace H:=fQ H
            obtain ⟨⟨t202,t203,t204⟩,A209,H⟩:=H
            try dsimp only at H
            obtain ⟨c210,H⟩:=iC H
            have c210b0:=decide_eq_true c210
            have c210b1:decide (5<t137.length)=true:=decide_eq_true (by omega)
            clear c210
            replace H:=fQ H
            obtain ⟨⟨t206,t207,t208⟩,A211,H⟩:=H
            try dsimp only at H
            replace H:=fQ H
            obtain ⟨⟨t209,t210,t211⟩,A212,H⟩:=H
            try dsimp only at H
            have HC213:=aD H
            clear H
            try go_wp2
            replace HO_14:=aD (eQ HO_14.out)
            replace HO_15:=aD (eQ HO_15.out)
            replace HB:=aD (lC HB.out)
            have p177:0≤(0:Int):=(by omega)
            have q177:0<(t137.length:Int):=dX
            obtain ⟨ad177,e177,hx177_0,hx177_1⟩:=cC (Kd.R_reads' HO_14.out).2.2 0 p177 q177
            cases e177
            have qi177:(0<t137.length)=True:=eq_true (by omega)
            (try rw [show ((0:Int)).toNat=0 from rfl] at hx177_0)
            (try rw [show 0*2=0 from rfl] at hx177_0)
            (try rw [Addr.add_zero'] at hx177_0)
            (try rw [show ((0:Int)).toNat=0 from rfl] at hx177_1)
            (try rw [show 0*2=0 from rfl] at hx177_1)
            (try rw [Addr.add_zero'] at hx177_1)
            replace p177:=eq_true p177
            replace q177:=eq_true q177
            have p181:0≤(3:Int):=(by omega)
            have q181:3<(t137.length:Int):=dX
            obtain ⟨ad181,e181,hx181_0,hx181_1⟩:=cC (Kd.R_reads' HO_14.out).2.2 3 p181 q181
            obtain rfl:ad177=ad181:=(by injection e181)
            (try simp only [show (3:Int).toNat=3 from rfl,Nat.reduceMul,Nat.reduceEqDiff,Go.Addr.add,↓reduceIte] at hx181_0)
            (try simp only [show (3:Int).toNat=3 from rfl,Nat.reduceMul,Nat.reduceEqDiff,Go.Addr.add,↓reduceIte] at hx181_1)
            have qi181:(3<t137.length)=True:=eq_true (by omega)
            (try rw [show ((3:Int)).toNat=3 from rfl] at hx181_0)
            (try rw [show 3*2=6 from rfl] at hx181_0)
            (try rw [show ((3:Int)).toNat=3 from rfl] at hx181_1)
            (try rw [show 3*2=6 from rfl] at hx181_1)
            replace p181:=eq_true p181
            replace q181:=eq_true q181
            refine eE (n:=11) (S:=fun w'=>w'.cell? ad177=some (.int .i64 ((aA t137 0).f0))∧w'.cell? ⟨ad177.block,ad177.off+1,none⟩=some (.int .i64 ((aA t137 0).f1))∧w'.cell? ⟨ad177.block,ad177.off+6,none⟩=some (.int .i64 ((aA t137 3).f0))∧w'.cell? ⟨ad177.block,ad177.off+6+1,none⟩=some (.int .i64 ((aA t137 3).f1))) (ds:=[]) (bm 11 0) (by kernel_rfl) rfl rfl ⟨hx177_0,hx177_1,hx181_0,hx181_1⟩ (fun hHeld=>?_);refine cX mW lX (fun HT_ HW_=>?_)
            generalize wc.drew=w214 at HO_14 HO_15 HB hx177_0 hx177_1 hx181_0 hx181_1 hHeld ⊢
            refine dG ((0,0,199,1)::(0,1,200,3)::(0,4,203,19)::(0,5,204,51)::(2,2,201,55)::(2,6,205,119)::[]) ?_
            iterate 6 (first|refine jT HT_ ?_|refine qB HT_ HW_ hHeld ?_)
            refine bL ?_
            refine sO (σ:=Nat) 1 (bm 11 1023) (fun s_=>[(202,.agg #[.int .i64 t178,.int .i64 t179,.int .i64 t180]),(206,.agg #[.int .i64 t182,.int .i64 t183,.int .i64 t184]),(207,.agg #[.int .i64 t185,.int .i64 t186,.int .i64 t187]),(21,.pointer (some ⟨s_,0,none⟩))]) (fun s_ w'=>(w'.cell? ad177=some (.int .i64 ((aA t137 0).f0))∧w'.cell? ⟨ad177.block,ad177.off+1,none⟩=some (.int .i64 ((aA t137 0).f1))∧w'.cell? ⟨ad177.block,ad177.off+6,none⟩=some (.int .i64 ((aA t137 3).f0))∧w'.cell? ⟨ad177.block,ad177.off+6+1,none⟩=some (.int .i64 ((aA t137 3).f1)))∧(Kd.R gA 80 w' w.heap.size (fun k_=>k_≠gb150) (.slice (some ad177) t137.length co50) t137)∧(Kd.R gG 72 w' w.heap.size (fun k_=>k_≠gb108∧k_≠gb109∧k_≠gb113∧k_≠gb123∧k_≠gb124∧k_≠gb125∧k_≠gb169∧k_≠s_) v142 t140)∧(w'.heap[s_]? = some (.cells #[.int .i64 0,.int .i64 0,.int .i64 0] 72 (0,0)))∧(w.heap.size≤s_)∧(w.heap.size≤s_)∧(Below w.heap.size w w')) ?_ ?_
            rotate_left
            ·intro hCont
             refine mF (i:=3) (j:=9) (Ni:=some 202) (Nj:=some 21) (bm 11 127) (bm 11 631) rfl rfl rfl rfl (gV HT_.out (by kernel_rfl)) (by decide) (by decide) (fun K hK=>?_) (fun K hK=>?_)
             ·skip
              refine bP Try.func87 #[.agg #[.int .i64 ((aA t137 0).f0),.int .i64 ((aA t137 0).f1)]] ?_
              with_reducible refine (bO ((aA t137 0).f0) ((aA t137 0).f1) t178 t179 t180 _ A199.out).mono ?_
              rintro e w215 ⟨rfl,hb⟩
              have HS0_:=cP hb hHeld.1
              have HS1_:=cP hb hHeld.2.1
              have HS2_:=cP hb hHeld.2.2.1
              have HS3_:=cP hb hHeld.2.2.2
              refine ⟨_,rfl,?_⟩
              replace HO_14:=aD (Kd.R_below (bN HO_14) hb)
              replace HO_15:=aD (Kd.R_below (bN HO_15) hb)
              replace HB:=aD (aE (bM HB) hb)
              (try clear hb)
              (try clear hk)
              refine hK.out _ _ ⟨HS0_,HS1_,HS2_,HS3_⟩ (fun hHeld=>?_)
              clear hK K
              refine cW (some 202) ?_
              refine mF (i:=7) (j:=9) (Ni:=some 206) (Nj:=some 21) (bm 11 255) (bm 11 639) rfl rfl rfl rfl (gV HT_.out (by kernel_rfl)) (by decide) (by decide) (fun K hK=>?_) (fun K hK=>?_)
              ·skip
               refine bP Try.func87 #[.agg #[.int .i64 ((aA t137 3).f0),.int .i64 ((aA t137 3).f1)]] ?_
               with_reducible refine (bO ((aA t137 3).f0) ((aA t137 3).f1) t182 t183 t184 _ A201.out).mono ?_
               rintro e w216 ⟨rfl,hb⟩
               have HS0_:=cP hb hHeld.1
               have HS1_:=cP hb hHeld.2.1
               have HS2_:=cP hb hHeld.2.2.1
               have HS3_:=cP hb hHeld.2.2.2
               refine ⟨_,rfl,?_⟩
               replace HO_14:=aD (Kd.R_below (bN HO_14) hb)
               replace HO_15:=aD (Kd.R_below (bN HO_15) hb)
               replace HB:=aD (aE (bM HB) hb)
               (try clear hb)
               (try clear hk)
               refine hK.out _ _ ⟨HS0_,HS1_,HS2_,HS3_⟩ (fun hHeld=>?_)
               clear hK K
               refine cW (some 206) ?_
               refine mF (i:=8) (j:=9) (Ni:=some 207) (Nj:=some 21) (bm 11 511) (bm 11 767) rfl rfl rfl rfl (gV HT_.out (by kernel_rfl)) (by decide) (by decide) (fun K hK=>?_) (fun K hK=>?_)
               ·skip
                refine bP Try.func82 #[.agg #[.int .i64 t178,.int .i64 t179,.int .i64 t180],.agg #[.int .i64 t182,.int .i64 t183,.int .i64 t184]] ?_
                with_reducible refine (aH kj182 t178 t179 t180 t182 t183 t184 t185 t186 t187 _ A202.out).mono ?_
                rintro e w217 ⟨rfl,hb⟩
                have HS0_:=cP hb hHeld.1
                have HS1_:=cP hb hHeld.2.1
                have HS2_:=cP hb hHeld.2.2.1
                have HS3_:=cP hb hHeld.2.2.2
                refine ⟨_,rfl,?_⟩
                replace HO_14:=aD (Kd.R_below (bN HO_14) hb)
                replace HO_15:=aD (Kd.R_below (bN HO_15) hb)
                replace HB:=aD (aE (bM HB) hb)
                (try clear hb)
                (try clear hk)
                refine hK.out _ _ ⟨HS0_,HS1_,HS2_,HS3_⟩ (fun hHeld=>?_)
                clear hK K
                refine cW (some 207) ?_
                refine cS (i:=9) (N:=some 21) (bm 11 1023) rfl rfl (bI HT_.out (by kernel_rfl)) (by decide) (fun K hK=>?_)
                refine dQ ?hg (N:=21) ?hd (cs:=#[.int .i64 0,.int .i64 0,.int .i64 0]) (t:=72) ?hr ?_;(case hd=>rfl);(case hg=>rfl);(case hr=>first|(go_simp;done)|(go_simp;rfl))
                intro gb188 hg w218 hbox hb
                have HS0_:=cP hb hHeld.1
                have HS1_:=cP hb hHeld.2.1
                have HS2_:=cP hb hHeld.2.2.1
                have HS3_:=cP hb hHeld.2.2.2
                replace HO_14:=aD (Kd.R_below (bN HO_14) hb)
                replace HO_15:=aD (Kd.R_below (Kd.R_elderB (bN HO_15) gb188 (Nat.le_of_eq hg.symm)) hb)
                have BK188:=aD (hbox)
                have GW188:=aD ((cZ HB hg))
                have GE188:=aD ((cZ HB hg))
                replace HB:=aD (aE (bM HB) hb)
                clear hb hbox hg
                refine hK.out _ _ ⟨HS0_,HS1_,HS2_,HS3_⟩ (fun hHeld=>?_)
                clear hK K
                refine cW (some 21) ?_
                exact fP (by simp only [eC,Act.put,List.setIfInBounds_toArray,List.set_cons_zero,List.set_cons_succ]) (hCont (gb188) _ ⟨hHeld,(bN HO_14),(by (with_reducible repeat (first|apply fK|apply gF|apply eQ));exact Kd.R_mono HO_15.out (fun _ hk=>⟨hk.1.1,⟨hk.1.2.1,⟨hk.1.2.2.1,⟨hk.1.2.2.2.1,⟨hk.1.2.2.2.2.1,⟨hk.1.2.2.2.2.2.1,⟨hk.1.2.2.2.2.2.2,hk.2⟩⟩⟩⟩⟩⟩⟩)),(cF BK188),GW188.out,GE188.out,(bM HB)⟩)
               ·skip
                refine dQ ?hg (N:=21) ?hd (cs:=#[.int .i64 0,.int .i64 0,.int .i64 0]) (t:=72) ?hr ?_;(case hd=>rfl);(case hg=>rfl);(case hr=>first|(go_simp;done)|(go_simp;rfl))
                intro gb188 hg w217 hbox hb
                have HS0_:=cP hb hHeld.1
                have HS1_:=cP hb hHeld.2.1
                have HS2_:=cP hb hHeld.2.2.1
                have HS3_:=cP hb hHeld.2.2.2
                replace HO_14:=aD (Kd.R_below (bN HO_14) hb)
                replace HO_15:=aD (Kd.R_below (Kd.R_elderB (bN HO_15) gb188 (Nat.le_of_eq hg.symm)) hb)
                have BK188:=aD (hbox)
                have GW188:=aD ((cZ HB hg))
                have GE188:=aD ((cZ HB hg))
                replace HB:=aD (aE (bM HB) hb)
                clear hb hbox hg
                refine hK.out _ _ ⟨HS0_,HS1_,HS2_,HS3_⟩ (fun hHeld=>?_)
                clear hK K
                refine cW (some 21) ?_
                refine cS (i:=8) (N:=some 207) (bm 11 1023) rfl rfl (bI HT_.out (by kernel_rfl)) (by decide) (fun K hK=>?_)
                refine bP Try.func82 #[.agg #[.int .i64 t178,.int .i64 t179,.int .i64 t180],.agg #[.int .i64 t182,.int .i64 t183,.int .i64 t184]] ?_
                with_reducible refine (aH kj182 t178 t179 t180 t182 t183 t184 t185 t186 t187 _ A202.out).mono ?_
                rintro e w218 ⟨rfl,hb⟩
                have HS0_:=cP hb hHeld.1
                have HS1_:=cP hb hHeld.2.1
                have HS2_:=cP hb hHeld.2.2.1
                have HS3_:=cP hb hHeld.2.2.2
                refine ⟨_,rfl,?_⟩
                replace HO_14:=aD (Kd.R_below (bN HO_14) hb)
                replace HO_15:=aD (Kd.R_below (bN HO_15) hb)
                replace BK188:=aD (aU BK188 hb)
                replace HB:=aD (aE (bM HB) hb)
                (try clear hb)
                (try clear hk)
                refine hK.out _ _ ⟨HS0_,HS1_,HS2_,HS3_⟩ (fun hHeld=>?_)
                clear hK K
                refine cW (some 207) ?_
                exact fP (by simp only [eC,Act.put,List.setIfInBounds_toArray,List.set_cons_zero,List.set_cons_succ]) (hCont (gb188) _ ⟨hHeld,(bN HO_14),(by (with_reducible repeat (first|apply fK|apply gF|apply eQ));exact Kd.R_mono HO_15.out (fun _ hk=>⟨hk.1.1,⟨hk.1.2.1,⟨hk.1.2.2.1,⟨hk.1.2.2.2.1,⟨hk.1.2.2.2.2.1,⟨hk.1.2.2.2.2.2.1,⟨hk.1.2.2.2.2.2.2,hk.2⟩⟩⟩⟩⟩⟩⟩)),(cF BK188),GW188.out,GE188.out,(bM HB)⟩)
              ·skip
               refine dQ ?hg (N:=21) ?hd (cs:=#[.int .i64 0,.int .i64 0,.int .i64 0]) (t:=72) ?hr ?_;(case hd=>rfl);(case hg=>rfl);(case hr=>first|(go_simp;done)|(go_simp;rfl))
               intro gb188 hg w216 hbox hb
               have HS0_:=cP hb hHeld.1
               have HS1_:=cP hb hHeld.2.1
               have HS2_:=cP hb hHeld.2.2.1
               have HS3_:=cP hb hHeld.2.2.2
               replace HO_14:=aD (Kd.R_below (bN HO_14) hb)
               replace HO_15:=aD (Kd.R_below (Kd.R_elderB (bN HO_15) gb188 (Nat.le_of_eq hg.symm)) hb)
               have BK188:=aD (hbox)
               have GW188:=aD ((cZ HB hg))
               have GE188:=aD ((cZ HB hg))
               replace HB:=aD (aE (bM HB) hb)
               clear hb hbox hg
               refine hK.out _ _ ⟨HS0_,HS1_,HS2_,HS3_⟩ (fun hHeld=>?_)
               clear hK K
               refine cW (some 21) ?_
               refine cS (i:=7) (N:=some 206) (bm 11 767) rfl rfl (bI HT_.out (by kernel_rfl)) (by decide) (fun K hK=>?_)
               refine bP Try.func87 #[.agg #[.int .i64 ((aA t137 3).f0),.int .i64 ((aA t137 3).f1)]] ?_
               with_reducible refine (bO ((aA t137 3).f0) ((aA t137 3).f1) t182 t183 t184 _ A201.out).mono ?_
               rintro e w217 ⟨rfl,hb⟩
               have HS0_:=cP hb hHeld.1
               have HS1_:=cP hb hHeld.2.1
               have HS2_:=cP hb hHeld.2.2.1
               have HS3_:=cP hb hHeld.2.2.2
               refine ⟨_,rfl,?_⟩
               replace HO_14:=aD (Kd.R_below (bN HO_14) hb)
               replace HO_15:=aD (Kd.R_below (bN HO_15) hb)
               replace BK188:=aD (aU BK188 hb)
               replace HB:=aD (aE (bM HB) hb)
               (try clear hb)
               (try clear hk)
               refine hK.out _ _ ⟨HS0_,HS1_,HS2_,HS3_⟩ (fun hHeld=>?_)
               clear hK K
               refine cW (some 206) ?_
               refine cS (i:=8) (N:=some 207) (bm 11 1023) rfl rfl (bI HT_.out (by kernel_rfl)) (by decide) (fun K hK=>?_)
               refine bP Try.func82 #[.agg #[.int .i64 t178,.int .i64 t179,.int .i64 t180],.agg #[.int .i64 t182,.int .i64 t183,.int .i64 t184]] ?_
               with_reducible refine (aH kj182 t178 t179 t180 t182 t183 t184 t185 t186 t187 _ A202.out).mono ?_
               rintro e w218 ⟨rfl,hb⟩
               have HS0_:=cP hb hHeld.1
               have HS1_:=cP hb hHeld.2.1
               have HS2_:=cP hb hHeld.2.2.1
               have HS3_:=cP hb hHeld.2.2.2
               refine ⟨_,rfl,?_⟩
               replace HO_14:=aD (Kd.R_below (bN HO_14) hb)
               replace HO_15:=aD (Kd.R_below (bN HO_15) hb)
               replace BK188:=aD (aU BK188 hb)
               replace HB:=aD (aE (bM HB) hb)
               (try clear hb)
               (try clear hk)
               refine hK.out _ _ ⟨HS0_,HS1_,HS2_,HS3_⟩ (fun hHeld=>?_)
               clear hK K
               refine cW (some 207) ?_
               exact fP (by simp only [eC,Act.put,List.setIfInBounds_toArray,List.set_cons_zero,List.set_cons_succ]) (hCont (gb188) _ ⟨hHeld,(bN HO_14),(by (with_reducible repeat (first|apply fK|apply gF|apply eQ));exact Kd.R_mono HO_15.out (fun _ hk=>⟨hk.1.1,⟨hk.1.2.1,⟨hk.1.2.2.1,⟨hk.1.2.2.2.1,⟨hk.1.2.2.2.2.1,⟨hk.1.2.2.2.2.2.1,⟨hk.1.2.2.2.2.2.2,hk.2⟩⟩⟩⟩⟩⟩⟩)),(cF BK188),GW188.out,GE188.out,(bM HB)⟩)
             ·skip
              refine dQ ?hg (N:=21) ?hd (cs:=#[.int .i64 0,.int .i64 0,.int .i64 0]) (t:=72) ?hr ?_;(case hd=>rfl);(case hg=>rfl);(case hr=>first|(go_simp;done)|(go_simp;rfl))
              intro gb188 hg w215 hbox hb
              have HS0_:=cP hb hHeld.1
              have HS1_:=cP hb hHeld.2.1
              have HS2_:=cP hb hHeld.2.2.1
              have HS3_:=cP hb hHeld.2.2.2
              replace HO_14:=aD (Kd.R_below (bN HO_14) hb)
              replace HO_15:=aD (Kd.R_below (Kd.R_elderB (bN HO_15) gb188 (Nat.le_of_eq hg.symm)) hb)
              have BK188:=aD (hbox)
              have GW188:=aD ((cZ HB hg))
              have GE188:=aD ((cZ HB hg))
              replace HB:=aD (aE (bM HB) hb)
              clear hb hbox hg
              refine hK.out _ _ ⟨HS0_,HS1_,HS2_,HS3_⟩ (fun hHeld=>?_)
              clear hK K
              refine cW (some 21) ?_
              refine cS (i:=3) (N:=some 202) (bm 11 639) rfl rfl (bI HT_.out (by kernel_rfl)) (by decide) (fun K hK=>?_)
              refine bP Try.func87 #[.agg #[.int .i64 ((aA t137 0).f0),.int .i64 ((aA t137 0).f1)]] ?_
              with_reducible refine (bO ((aA t137 0).f0) ((aA t137 0).f1) t178 t179 t180 _ A199.out).mono ?_
              rintro e w216 ⟨rfl,hb⟩
              have HS0_:=cP hb hHeld.1
              have HS1_:=cP hb hHeld.2.1
              have HS2_:=cP hb hHeld.2.2.1
              have HS3_:=cP hb hHeld.2.2.2
              refine ⟨_,rfl,?_⟩
              replace HO_14:=aD (Kd.R_below (bN HO_14) hb)
              replace HO_15:=aD (Kd.R_below (bN HO_15) hb)
              replace BK188:=aD (aU BK188 hb)
              replace HB:=aD (aE (bM HB) hb)
              (try clear hb)
              (try clear hk)
              refine hK.out _ _ ⟨HS0_,HS1_,HS2_,HS3_⟩ (fun hHeld=>?_)
              clear hK K
              refine cW (some 202) ?_
              refine cS (i:=7) (N:=some 206) (bm 11 767) rfl rfl (bI HT_.out (by kernel_rfl)) (by decide) (fun K hK=>?_)
              refine bP Try.func87 #[.agg #[.int .i64 ((aA t137 3).f0),.int .i64 ((aA t137 3).f1)]] ?_
              with_reducible refine (bO ((aA t137 3).f0) ((aA t137 3).f1) t182 t183 t184 _ A201.out).mono ?_
              rintro e w217 ⟨rfl,hb⟩
              have HS0_:=cP hb hHeld.1
              have HS1_:=cP hb hHeld.2.1
              have HS2_:=cP hb hHeld.2.2.1
              have HS3_:=cP hb hHeld.2.2.2
              refine ⟨_,rfl,?_⟩
              replace HO_14:=aD (Kd.R_below (bN HO_14) hb)
              replace HO_15:=aD (Kd.R_below (bN HO_15) hb)
              replace BK188:=aD (aU BK188 hb)
              replace HB:=aD (aE (bM HB) hb)
              (try clear hb)
              (try clear hk)
              refine hK.out _ _ ⟨HS0_,HS1_,HS2_,HS3_⟩ (fun hHeld=>?_)
              clear hK K
              refine cW (some 206) ?_
              refine cS (i:=8) (N:=some 207) (bm 11 1023) rfl rfl (bI HT_.out (by kernel_rfl)) (by decide) (fun K hK=>?_)
              refine bP Try.func82 #[.agg #[.int .i64 t178,.int .i64 t179,.int .i64 t180],.agg #[.int .i64 t182,.int .i64 t183,.int .i64 t184]] ?_
              with_reducible refine (aH kj182 t178 t179 t180 t182 t183 t184 t185 t186 t187 _ A202.out).mono ?_
              rintro e w218 ⟨rfl,hb⟩
              have HS0_:=cP hb hHeld.1
              have HS1_:=cP hb hHeld.2.1
              have HS2_:=cP hb hHeld.2.2.1
              have HS3_:=cP hb hHeld.2.2.2
              refine ⟨_,rfl,?_⟩
              replace HO_14:=aD (Kd.R_below (bN HO_14) hb)
              replace HO_15:=aD (Kd.R_below (bN HO_15) hb)
              replace BK188:=aD (aU BK188 hb)
              replace HB:=aD (aE (bM HB) hb)
              (try clear hb)
              (try clear hk)
              refine hK.out _ _ ⟨HS0_,HS1_,HS2_,HS3_⟩ (fun hHeld=>?_)
              clear hK K
              refine cW (some 207) ?_
              exact fP (by simp only [eC,Act.put,List.setIfInBounds_toArray,List.set_cons_zero,List.set_cons_succ]) (hCont (gb188) _ ⟨hHeld,(bN HO_14),(by (with_reducible repeat (first|apply fK|apply gF|apply eQ));exact Kd.R_mono HO_15.out (fun _ hk=>⟨hk.1.1,⟨hk.1.2.1,⟨hk.1.2.2.1,⟨hk.1.2.2.2.1,⟨hk.1.2.2.2.2.1,⟨hk.1.2.2.2.2.2.1,⟨hk.1.2.2.2.2.2.2,hk.2⟩⟩⟩⟩⟩⟩⟩)),(cF BK188),GW188.out,GE188.out,(bM HB)⟩)
            rintro gb188 w219 ⟨hS_,h0_,h1_,h10_,h11_,h12_,h29_⟩
            have n0_:Aside0 (Kd.R gA 80 w219 w.heap.size (fun k_=>k_≠gb150) (.slice (some ad177) t137.length co50) t137):=⟨h0_⟩
            have n1_:Aside0 (Kd.R gG 72 w219 w.heap.size (fun k_=>k_≠gb108∧k_≠gb109∧k_≠gb113∧k_≠gb123∧k_≠gb124∧k_≠gb125∧k_≠gb169∧k_≠gb188) v142 t140):=⟨h1_⟩
            have n10_:Aside0 (w219.heap[gb188]? = some (.cells #[.int .i64 0,.int .i64 0,.int .i64 0] 72 (0,0))):=⟨h10_⟩
            have n11_:Aside0 (w.heap.size≤gb188):=⟨h11_⟩
            have n12_:Aside0 (w.heap.size≤gb188):=⟨h12_⟩
            have n29_:Aside0 (Below w.heap.size w w219):=⟨h29_⟩
            clear HO_14
            clear HO_15
            skip
            skip
            skip
            skip
            skip
            skip
            skip
            skip
            clear HB
            clear h0_ h1_ h10_ h11_ h12_
            have HO_14:=n0_
            have HO_15:=n1_
            have BK188:=n10_
            have GW188:=n11_
            have GE188:=n12_
            have HB:=n29_
            clear n0_ n1_ n10_ n11_ n12_
            have hHeld:w219.cell? ad177=some (.int .i64 ((aA t137 0).f0))∧w219.cell? ⟨ad177.block,ad177.off+1,none⟩=some (.int .i64 ((aA t137 0).f1))∧w219.cell? ⟨ad177.block,ad177.off+6,none⟩=some (.int .i64 ((aA t137 3).f0))∧w219.cell? ⟨ad177.block,ad177.off+6+1,none⟩=some (.int .i64 ((aA t137 3).f1)):=hS_
            refine fP (a':=?_) ?_ ?_
            rotate_left
            ·simp only [eC,Act.put,List.setIfInBounds_toArray,List.set_cons_zero,List.set_cons_succ]
             rfl
            refine cS (i:=10) (N:=none) (bm 11 2047) rfl rfl (bI HT_.out (by kernel_rfl)) (by decide) (fun K hK=>?_)
            have hs220:w219.cell? ⟨gb188,0,none⟩=some (.int .i64 0):=aT BK188 0
            have hfs220:=aC BK188.out 0
            have hs221:w219.cell? ⟨gb188,1,none⟩=some (.int .i64 0):=aT BK188 1
            have hfs221:=aC BK188.out 1
            have hs222:w219.cell? ⟨gb188,2,none⟩=some (.int .i64 0):=aT BK188 2
            have hfs222:=aC BK188.out 2
            refine fW (w1:=?_) (by rfl) rfl ?_ ?_
            rotate_left
            ·go_simp
             rfl
            refine hK.out _ _ ⟨(dT (Kd.own_blk (Kd.R_ne HO_14.out BK188.out (by decide))) ((dT (Kd.own_blk (Kd.R_ne HO_14.out BK188.out (by decide))) ((dT (Kd.own_blk (Kd.R_ne HO_14.out BK188.out (by decide))) hHeld.1))))),(dT (Kd.own_blk (Kd.R_ne HO_14.out BK188.out (by decide))) ((dT (Kd.own_blk (Kd.R_ne HO_14.out BK188.out (by decide))) ((dT (Kd.own_blk (Kd.R_ne HO_14.out BK188.out (by decide))) hHeld.2.1))))),(dT (Kd.own_blk (Kd.R_ne HO_14.out BK188.out (by decide))) ((dT (Kd.own_blk (Kd.R_ne HO_14.out BK188.out (by decide))) ((dT (Kd.own_blk (Kd.R_ne HO_14.out BK188.out (by decide))) hHeld.2.2.1))))),(dT (Kd.own_blk (Kd.R_ne HO_14.out BK188.out (by decide))) ((dT (Kd.own_blk (Kd.R_ne HO_14.out BK188.out (by decide))) ((dT (Kd.own_blk (Kd.R_ne HO_14.out BK188.out (by decide))) hHeld.2.2.2)))))⟩ (fun hHeld=>?_)
            clear hK K
            refine dD (dZ HT_.out (by kernel_rfl)) ?_
            try go_wp2
            replace HO_14:Aside0 (Kd.R gA 80 (((w219.setCell ⟨gb188,0,none⟩ (.int .i64 t185)).setCell ⟨gb188,1,none⟩ (.int .i64 t186)).setCell ⟨gb188,2,none⟩ (.int .i64 t187)) w.heap.size (fun k_=>k_≠gb150) (.slice (some ad177) t137.length co50) t137):=⟨by (with_reducible repeat (first|apply fK|apply gF|apply eQ));exact Kd.R_mono (Kd.R_far (p:=⟨gb188,2,none⟩) (Kd.R_far (p:=⟨gb188,1,none⟩) (Kd.R_far (p:=⟨gb188,0,none⟩) (Kd.R_types HO_14.out BK188.out (by decide)) (fun _ hk=>hk.2) (.int .i64 t185)) (fun _ hk=>hk.2) (.int .i64 t186)) (fun _ hk=>hk.2) (.int .i64 t187)) (fun _ hk=>hk.1)⟩
            replace HO_15:Aside0 (Kd.R gG 72 (((w219.setCell ⟨gb188,0,none⟩ (.int .i64 t185)).setCell ⟨gb188,1,none⟩ (.int .i64 t186)).setCell ⟨gb188,2,none⟩ (.int .i64 t187)) w.heap.size (fun k_=>k_≠gb108∧k_≠gb109∧k_≠gb113∧k_≠gb123∧k_≠gb124∧k_≠gb125∧k_≠gb169∧k_≠gb188) v142 t140):=⟨by (with_reducible repeat (first|apply fK|apply gF|apply eQ));exact Kd.R_mono (Kd.R_far (p:=⟨gb188,2,none⟩) (Kd.R_far (p:=⟨gb188,1,none⟩) (Kd.R_far (p:=⟨gb188,0,none⟩) (Kd.R_mono HO_15.out (fun k_ hk=>(⟨hk,hk.2.2.2.2.2.2.2⟩:_∧k_≠gb188))) (fun _ hk=>hk.2) (.int .i64 t185)) (fun _ hk=>hk.2) (.int .i64 t186)) (fun _ hk=>hk.2) (.int .i64 t187)) (fun _ hk=>⟨hk.1.1,⟨hk.1.2.1,⟨hk.1.2.2.1,⟨hk.1.2.2.2.1,⟨hk.1.2.2.2.2.1,⟨hk.1.2.2.2.2.2.1,⟨hk.1.2.2.2.2.2.2.1,hk.1.2.2.2.2.2.2.2⟩⟩⟩⟩⟩⟩⟩)⟩
            replace BK188:Aside0 ((((w219.setCell ⟨gb188,0,none⟩ (.int .i64 t185)).setCell ⟨gb188,1,none⟩ (.int .i64 t186)).setCell ⟨gb188,2,none⟩ (.int .i64 t187)).heap[gb188]? = some (.cells #[.int .i64 t185,.int .i64 t186,.int .i64 t187] 72 (0,0))):=⟨eW BK188⟩
            replace HB:Aside0 (Below w.heap.size w (((w219.setCell ⟨gb188,0,none⟩ (.int .i64 t185)).setCell ⟨gb188,1,none⟩ (.int .i64 t186)).setCell ⟨gb188,2,none⟩ (.int .i64 t187))):=⟨bM HB⟩
            generalize (((w219.setCell ⟨gb188,0,none⟩ (.int .i64 t185)).setCell ⟨gb188,1,none⟩ (.int .i64 t186)).setCell ⟨gb188,2,none⟩ (.int .i64 t187))=w223 at HO_14 HO_15 BK188 HB ⊢
            replace HO_14:=aD (eQ HO_14.out)
            replace HO_15:=aD (eQ HO_15.out)
            replace BK188:=aD (aK BK188.out)
            replace HB:=aD (lC HB.out)
            have p189:0≤(1:Int):=(by omega)
            have q189:1<(t137.length:Int):=dX
            obtain ⟨ad189,e189,hx189_0,hx189_1⟩:=cC (Kd.R_reads' HO_14.out).2.2 1 p189 q189
            obtain rfl:ad177=ad189:=(by injection e189)
            (try simp only [show (1:Int).toNat=1 from rfl,Nat.reduceMul,Nat.reduceEqDiff,Go.Addr.add,↓reduceIte] at hx189_0)
            (try simp only [show (1:Int).toNat=1 from rfl,Nat.reduceMul,Nat.reduceEqDiff,Go.Addr.add,↓reduceIte] at hx189_1)
            have qi189:(1<t137.length)=True:=eq_true (by omega)
            (try rw [show ((1:Int)).toNat=1 from rfl] at hx189_0)
            (try rw [show 1*2=2 from rfl] at hx189_0)
            (try rw [show ((1:Int)).toNat=1 from rfl] at hx189_1)
            (try rw [show 1*2=2 from rfl] at hx189_1)
            replace p189:=eq_true p189
            replace q189:=eq_true q189
            have p193:0≤(4:Int):=(by omega)
            have q193:4<(t137.length:Int):=dX
            obtain ⟨ad193,e193,hx193_0,hx193_1⟩:=cC (Kd.R_reads' HO_14.out).2.2 4 p193 q193
            obtain rfl:ad177=ad193:=(by injection e193)
            (try simp only [show (4:Int).toNat=4 from rfl,Nat.reduceMul,Nat.reduceEqDiff,Go.Addr.add,↓reduceIte] at hx193_0)
            (try simp only [show (4:Int).toNat=4 from rfl,Nat.reduceMul,Nat.reduceEqDiff,Go.Addr.add,↓reduceIte] at hx193_1)
            have qi193:(4<t137.length)=True:=eq_true (by omega)
            (try rw [show ((4:Int)).toNat=4 from rfl] at hx193_0)
            (try rw [show 4*2=8 from rfl] at hx193_0)
            (try rw [show ((4:Int)).toNat=4 from rfl] at hx193_1)
            (try rw [show 4*2=8 from rfl] at hx193_1)
            replace p193:=eq_true p193
            replace q193:=eq_true q193
            refine eE (n:=11) (S:=fun w'=>w'.cell? ⟨ad177.block,ad177.off+2,none⟩=some (.int .i64 ((aA t137 1).f0))∧w'.cell? ⟨ad177.block,ad177.off+2+1,none⟩=some (.int .i64 ((aA t137 1).f1))∧w'.cell? ⟨ad177.block,ad177.off+8,none⟩=some (.int .i64 ((aA t137 4).f0))∧w'.cell? ⟨ad177.block,ad177.off+8+1,none⟩=some (.int .i64 ((aA t137 4).f1))) (ds:=[]) (bm 11 0) (by kernel_rfl) rfl rfl ⟨hx189_0,hx189_1,hx193_0,hx193_1⟩ (fun hHeld=>?_);refine cX mX lY (fun HT_ HW_=>?_)
            generalize w223.drew=w224 at HO_14 HO_15 BK188 HB hx189_0 hx189_1 hx193_0 hx193_1 hHeld ⊢
            refine dG ((0,0,208,1)::(0,1,209,3)::(0,4,212,19)::(0,5,213,51)::(2,2,210,55)::(2,6,214,119)::[]) ?_
            iterate 6 (first|refine jT HT_ ?_|refine qB HT_ HW_ hHeld ?_)
            refine bL ?_
            refine sO (σ:=Nat) 1 (bm 11 1023) (fun s_=>[(211,.agg #[.int .i64 t190,.int .i64 t191,.int .i64 t192]),(215,.agg #[.int .i64 t194,.int .i64 t195,.int .i64 t196]),(216,.agg #[.int .i64 t197,.int .i64 t198,.int .i64 t199]),(22,.pointer (some ⟨s_,0,none⟩))]) (fun s_ w'=>(w'.cell? ⟨ad177.block,ad177.off+2,none⟩=some (.int .i64 ((aA t137 1).f0))∧w'.cell? ⟨ad177.block,ad177.off+2+1,none⟩=some (.int .i64 ((aA t137 1).f1))∧w'.cell? ⟨ad177.block,ad177.off+8,none⟩=some (.int .i64 ((aA t137 4).f0))∧w'.cell? ⟨ad177.block,ad177.off+8+1,none⟩=some (.int .i64 ((aA t137 4).f1)))∧(Kd.R gA 80 w' w.heap.size (fun k_=>k_≠gb150) (.slice (some ad177) t137.length co50) t137)∧(Kd.R gG 72 w' w.heap.size (fun k_=>k_≠gb108∧k_≠gb109∧k_≠gb113∧k_≠gb123∧k_≠gb124∧k_≠gb125∧k_≠gb169∧k_≠gb188∧k_≠s_) v142 t140)∧(w'.heap[gb188]? = some (.cells #[.int .i64 t185,.int .i64 t186,.int .i64 t187] 72 (0,0)))∧(w'.heap[s_]? = some (.cells #[.int .i64 0,.int .i64 0,.int .i64 0] 72 (0,0)))∧(w.heap.size≤s_)∧(w.heap.size≤s_)∧(gb188≠s_)∧(s_≠gb188)∧(Below w.heap.size w w')) ?_ ?_
            rotate_left
            ·intro hCont
             refine mF (i:=3) (j:=9) (Ni:=some 211) (Nj:=some 22) (bm 11 127) (bm 11 631) rfl rfl rfl rfl (gV HT_.out (by kernel_rfl)) (by decide) (by decide) (fun K hK=>?_) (fun K hK=>?_)
             ·skip
              refine bP Try.func87 #[.agg #[.int .i64 ((aA t137 1).f0),.int .i64 ((aA t137 1).f1)]] ?_
              with_reducible refine (bO ((aA t137 1).f0) ((aA t137 1).f1) t190 t191 t192 _ A204.out).mono ?_
              rintro e w225 ⟨rfl,hb⟩
              have HS0_:=cP hb hHeld.1
              have HS1_:=cP hb hHeld.2.1
              have HS2_:=cP hb hHeld.2.2.1
              have HS3_:=cP hb hHeld.2.2.2
              refine ⟨_,rfl,?_⟩
              replace HO_14:=aD (Kd.R_below (bN HO_14) hb)
              replace HO_15:=aD (Kd.R_below (bN HO_15) hb)
              replace BK188:=aD (aU BK188 hb)
              replace HB:=aD (aE (bM HB) hb)
              (try clear hb)
              (try clear hk)
              refine hK.out _ _ ⟨HS0_,HS1_,HS2_,HS3_⟩ (fun hHeld=>?_)
              clear hK K
              refine cW (some 211) ?_
              refine mF (i:=7) (j:=9) (Ni:=some 215) (Nj:=some 22) (bm 11 255) (bm 11 639) rfl rfl rfl rfl (gV HT_.out (by kernel_rfl)) (by decide) (by decide) (fun K hK=>?_) (fun K hK=>?_)
              ·skip
               refine bP Try.func87 #[.agg #[.int .i64 ((aA t137 4).f0),.int .i64 ((aA t137 4).f1)]] ?_
               with_reducible refine (bO ((aA t137 4).f0) ((aA t137 4).f1) t194 t195 t196 _ A206.out).mono ?_
               rintro e w226 ⟨rfl,hb⟩
               have HS0_:=cP hb hHeld.1
               have HS1_:=cP hb hHeld.2.1
               have HS2_:=cP hb hHeld.2.2.1
               have HS3_:=cP hb hHeld.2.2.2
               refine ⟨_,rfl,?_⟩
               replace HO_14:=aD (Kd.R_below (bN HO_14) hb)
               replace HO_15:=aD (Kd.R_below (bN HO_15) hb)
               replace BK188:=aD (aU BK188 hb)
               replace HB:=aD (aE (bM HB) hb)
               (try clear hb)
               (try clear hk)
               refine hK.out _ _ ⟨HS0_,HS1_,HS2_,HS3_⟩ (fun hHeld=>?_)
               clear hK K
               refine cW (some 215) ?_
               refine mF (i:=8) (j:=9) (Ni:=some 216) (Nj:=some 22) (bm 11 511) (bm 11 767) rfl rfl rfl rfl (gV HT_.out (by kernel_rfl)) (by decide) (by decide) (fun K hK=>?_) (fun K hK=>?_)
               ·skip
                refine bP Try.func82 #[.agg #[.int .i64 t190,.int .i64 t191,.int .i64 t192],.agg #[.int .i64 t194,.int .i64 t195,.int .i64 t196]] ?_
                with_reducible refine (aH kj182 t190 t191 t192 t194 t195 t196 t197 t198 t199 _ A207.out).mono ?_
                rintro e w227 ⟨rfl,hb⟩
                have HS0_:=cP hb hHeld.1
                have HS1_:=cP hb hHeld.2.1
                have HS2_:=cP hb hHeld.2.2.1
                have HS3_:=cP hb hHeld.2.2.2
                refine ⟨_,rfl,?_⟩
                replace HO_14:=aD (Kd.R_below (bN HO_14) hb)
                replace HO_15:=aD (Kd.R_below (bN HO_15) hb)
                replace BK188:=aD (aU BK188 hb)
                replace HB:=aD (aE (bM HB) hb)
                (try clear hb)
                (try clear hk)
                refine hK.out _ _ ⟨HS0_,HS1_,HS2_,HS3_⟩ (fun hHeld=>?_)
                clear hK K
                refine cW (some 216) ?_
                refine cS (i:=9) (N:=some 22) (bm 11 1023) rfl rfl (bI HT_.out (by kernel_rfl)) (by decide) (fun K hK=>?_)
                refine dQ ?hg (N:=22) ?hd (cs:=#[.int .i64 0,.int .i64 0,.int .i64 0]) (t:=72) ?hr ?_;(case hd=>rfl);(case hg=>rfl);(case hr=>first|(go_simp;done)|(go_simp;rfl))
                intro gb200 hg w228 hbox hb
                have HS0_:=cP hb hHeld.1
                have HS1_:=cP hb hHeld.2.1
                have HS2_:=cP hb hHeld.2.2.1
                have HS3_:=cP hb hHeld.2.2.2
                replace HO_14:=aD (Kd.R_below (bN HO_14) hb)
                replace HO_15:=aD (Kd.R_below (Kd.R_elderB (bN HO_15) gb200 (Nat.le_of_eq hg.symm)) hb)
                have BK200:=aD (hbox)
                have GW200:=aD ((cZ HB hg))
                have GE200:=aD ((cZ HB hg))
                replace HB:=aD (aE (bM HB) hb)
                have NB188_200:=aD ((bW BK188 hg))
                have NB200_188:=aD ((bX BK188 hg))
                replace BK188:=aD (aU BK188 hb)
                clear hb hbox hg
                refine hK.out _ _ ⟨HS0_,HS1_,HS2_,HS3_⟩ (fun hHeld=>?_)
                clear hK K
                refine cW (some 22) ?_
                exact fP (by simp only [eC,Act.put,List.setIfInBounds_toArray,List.set_cons_zero,List.set_cons_succ]) (hCont (gb200) _ ⟨hHeld,(bN HO_14),(by (with_reducible repeat (first|apply fK|apply gF|apply eQ));exact Kd.R_mono HO_15.out (fun _ hk=>⟨hk.1.1,⟨hk.1.2.1,⟨hk.1.2.2.1,⟨hk.1.2.2.2.1,⟨hk.1.2.2.2.2.1,⟨hk.1.2.2.2.2.2.1,⟨hk.1.2.2.2.2.2.2.1,⟨hk.1.2.2.2.2.2.2.2,hk.2⟩⟩⟩⟩⟩⟩⟩⟩)),(cF BK188),(cF BK200),GW200.out,GE200.out,NB188_200.out,NB200_188.out,(bM HB)⟩)
               ·skip
                refine dQ ?hg (N:=22) ?hd (cs:=#[.int .i64 0,.int .i64 0,.int .i64 0]) (t:=72) ?hr ?_;(case hd=>rfl);(case hg=>rfl);(case hr=>first|(go_simp;done)|(go_simp;rfl))
                intro gb200 hg w227 hbox hb
                have HS0_:=cP hb hHeld.1
                have HS1_:=cP hb hHeld.2.1
                have HS2_:=cP hb hHeld.2.2.1
                have HS3_:=cP hb hHeld.2.2.2
                replace HO_14:=aD (Kd.R_below (bN HO_14) hb)
                replace HO_15:=aD (Kd.R_below (Kd.R_elderB (bN HO_15) gb200 (Nat.le_of_eq hg.symm)) hb)
                have BK200:=aD (hbox)
                have GW200:=aD ((cZ HB hg))
                have GE200:=aD ((cZ HB hg))
                replace HB:=aD (aE (bM HB) hb)
                have NB188_200:=aD ((bW BK188 hg))
                have NB200_188:=aD ((bX BK188 hg))
                replace BK188:=aD (aU BK188 hb)
                clear hb hbox hg
                refine hK.out _ _ ⟨HS0_,HS1_,HS2_,HS3_⟩ (fun hHeld=>?_)
                clear hK K
                refine cW (some 22) ?_
                refine cS (i:=8) (N:=some 216) (bm 11 1023) rfl rfl (bI HT_.out (by kernel_rfl)) (by decide) (fun K hK=>?_)
                refine bP Try.func82 #[.agg #[.int .i64 t190,.int .i64 t191,.int .i64 t192],.agg #[.int .i64 t194,.int .i64 t195,.int .i64 t196]] ?_
                with_reducible refine (aH kj182 t190 t191 t192 t194 t195 t196 t197 t198 t199 _ A207.out).mono ?_
                rintro e w228 ⟨rfl,hb⟩
                have HS0_:=cP hb hHeld.1
                have HS1_:=cP hb hHeld.2.1
                have HS2_:=cP hb hHeld.2.2.1
                have HS3_:=cP hb hHeld.2.2.2
                refine ⟨_,rfl,?_⟩
                replace HO_14:=aD (Kd.R_below (bN HO_14) hb)
                replace HO_15:=aD (Kd.R_below (bN HO_15) hb)
                replace BK188:=aD (aU BK188 hb)
                replace BK200:=aD (aU BK200 hb)
                replace HB:=aD (aE (bM HB) hb)
                (try clear hb)
                (try clear hk)
                refine hK.out _ _ ⟨HS0_,HS1_,HS2_,HS3_⟩ (fun hHeld=>?_)
                clear hK K
                refine cW (some 216) ?_
                exact fP (by simp only [eC,Act.put,List.setIfInBounds_toArray,List.set_cons_zero,List.set_cons_succ]) (hCont (gb200) _ ⟨hHeld,(bN HO_14),(by (with_reducible repeat (first|apply fK|apply gF|apply eQ));exact Kd.R_mono HO_15.out (fun _ hk=>⟨hk.1.1,⟨hk.1.2.1,⟨hk.1.2.2.1,⟨hk.1.2.2.2.1,⟨hk.1.2.2.2.2.1,⟨hk.1.2.2.2.2.2.1,⟨hk.1.2.2.2.2.2.2.1,⟨hk.1.2.2.2.2.2.2.2,hk.2⟩⟩⟩⟩⟩⟩⟩⟩)),(cF BK188),(cF BK200),GW200.out,GE200.out,NB188_200.out,NB200_188.out,(bM HB)⟩)
              ·skip
               refine dQ ?hg (N:=22) ?hd (cs:=#[.int .i64 0,.int .i64 0,.int .i64 0]) (t:=72) ?hr ?_;(case hd=>rfl);(case hg=>rfl);(case hr=>first|(go_simp;done)|(go_simp;rfl))
               intro gb200 hg w226 hbox hb
               have HS0_:=cP hb hHeld.1
               have HS1_:=cP hb hHeld.2.1
               have HS2_:=cP hb hHeld.2.2.1
               have HS3_:=cP hb hHeld.2.2.2
               replace HO_14:=aD (Kd.R_below (bN HO_14) hb)
               replace HO_15:=aD (Kd.R_below (Kd.R_elderB (bN HO_15) gb200 (Nat.le_of_eq hg.symm)) hb)
               have BK200:=aD (hbox)
               have GW200:=aD ((cZ HB hg))
               have GE200:=aD ((cZ HB hg))
               replace HB:=aD (aE (bM HB) hb)
               have NB188_200:=aD ((bW BK188 hg))
               have NB200_188:=aD ((bX BK188 hg))
               replace BK188:=aD (aU BK188 hb)
               clear hb hbox hg
               refine hK.out _ _ ⟨HS0_,HS1_,HS2_,HS3_⟩ (fun hHeld=>?_)
               clear hK K
               refine cW (some 22) ?_
               refine cS (i:=7) (N:=some 215) (bm 11 767) rfl rfl (bI HT_.out (by kernel_rfl)) (by decide) (fun K hK=>?_)
               refine bP Try.func87 #[.agg #[.int .i64 ((aA t137 4).f0),.int .i64 ((aA t137 4).f1)]] ?_
               with_reducible refine (bO ((aA t137 4).f0) ((aA t137 4).f1) t194 t195 t196 _ A206.out).mono ?_
               rintro e w227 ⟨rfl,hb⟩
               have HS0_:=cP hb hHeld.1
               have HS1_:=cP hb hHeld.2.1
               have HS2_:=cP hb hHeld.2.2.1
               have HS3_:=cP hb hHeld.2.2.2
               refine ⟨_,rfl,?_⟩
               replace HO_14:=aD (Kd.R_below (bN HO_14) hb)
               replace HO_15:=aD (Kd.R_below (bN HO_15) hb)
               replace BK188:=aD (aU BK188 hb)
               replace BK200:=aD (aU BK200 hb)
               replace HB:=aD (aE (bM HB) hb)
               (try clear hb)
               (try clear hk)
               refine hK.out _ _ ⟨HS0_,HS1_,HS2_,HS3_⟩ (fun hHeld=>?_)
               clear hK K
               refine cW (some 215) ?_
               refine cS (i:=8) (N:=some 216) (bm 11 1023) rfl rfl (bI HT_.out (by kernel_rfl)) (by decide) (fun K hK=>?_)
               refine bP Try.func82 #[.agg #[.int .i64 t190,.int .i64 t191,.int .i64 t192],.agg #[.int .i64 t194,.int .i64 t195,.int .i64 t196]] ?_
               with_reducible refine (aH kj182 t190 t191 t192 t194 t195 t196 t197 t198 t199 _ A207.out).mono ?_
               rintro e w228 ⟨rfl,hb⟩
               have HS0_:=cP hb hHeld.1
               have HS1_:=cP hb hHeld.2.1
               have HS2_:=cP hb hHeld.2.2.1
               have HS3_:=cP hb hHeld.2.2.2
               refine ⟨_,rfl,?_⟩
               replace HO_14:=aD (Kd.R_below (bN HO_14) hb)
               replace HO_15:=aD (Kd.R_below (bN HO_15) hb)
               replace BK188:=aD (aU BK188 hb)
               replace BK200:=aD (aU BK200 hb)
               replace HB:=aD (aE (bM HB) hb)
               (try clear hb)
               (try clear hk)
               refine hK.out _ _ ⟨HS0_,HS1_,HS2_,HS3_⟩ (fun hHeld=>?_)
               clear hK K
               refine cW (some 216) ?_
               exact fP (by simp only [eC,Act.put,List.setIfInBounds_toArray,List.set_cons_zero,List.set_cons_succ]) (hCont (gb200) _ ⟨hHeld,(bN HO_14),(by (with_reducible repeat (first|apply fK|apply gF|apply eQ));exact Kd.R_mono HO_15.out (fun _ hk=>⟨hk.1.1,⟨hk.1.2.1,⟨hk.1.2.2.1,⟨hk.1.2.2.2.1,⟨hk.1.2.2.2.2.1,⟨hk.1.2.2.2.2.2.1,⟨hk.1.2.2.2.2.2.2.1,⟨hk.1.2.2.2.2.2.2.2,hk.2⟩⟩⟩⟩⟩⟩⟩⟩)),(cF BK188),(cF BK200),GW200.out,GE200.out,NB188_200.out,NB200_188.out,(bM HB)⟩)
             ·skip
              refine dQ ?hg (N:=22) ?hd (cs:=#[.int .i64 0,.int .i64 0,.int .i64 0]) (t:=72) ?hr ?_;(case hd=>rfl);(case hg=>rfl);(case hr=>first|(go_simp;done)|(go_simp;rfl))
              intro gb200 hg w225 hbox hb
              have HS0_:=cP hb hHeld.1
              have HS1_:=cP hb hHeld.2.1
              have HS2_:=cP hb hHeld.2.2.1
              have HS3_:=cP hb hHeld.2.2.2
              replace HO_14:=aD (Kd.R_below (bN HO_14) hb)
              replace HO_15:=aD (Kd.R_below (Kd.R_elderB (bN HO_15) gb200 (Nat.le_of_eq hg.symm)) hb)
              have BK200:=aD (hbox)
              have GW200:=aD ((cZ HB hg))
              have GE200:=aD ((cZ HB hg))
              replace HB:=aD (aE (bM HB) hb)
              have NB188_200:=aD ((bW BK188 hg))
              have NB200_188:=aD ((bX BK188 hg))
              replace BK188:=aD (aU BK188 hb)
              clear hb hbox hg
              refine hK.out _ _ ⟨HS0_,HS1_,HS2_,HS3_⟩ (fun hHeld=>?_)
              clear hK K
              refine cW (some 22) ?_
              refine cS (i:=3) (N:=some 211) (bm 11 639) rfl rfl (bI HT_.out (by kernel_rfl)) (by decide) (fun K hK=>?_)
              refine bP Try.func87 #[.agg #[.int .i64 ((aA t137 1).f0),.int .i64 ((aA t137 1).f1)]] ?_
              with_reducible refine (bO ((aA t137 1).f0) ((aA t137 1).f1) t190 t191 t192 _ A204.out).mono ?_
              rintro e w226 ⟨rfl,hb⟩
              have HS0_:=cP hb hHeld.1
              have HS1_:=cP hb hHeld.2.1
              have HS2_:=cP hb hHeld.2.2.1
              have HS3_:=cP hb hHeld.2.2.2
              refine ⟨_,rfl,?_⟩
              replace HO_14:=aD (Kd.R_below (bN HO_14) hb)
              replace HO_15:=aD (Kd.R_below (bN HO_15) hb)
              replace BK188:=aD (aU BK188 hb)
              replace BK200:=aD (aU BK200 hb)
              replace HB:=aD (aE (bM HB) hb)
              (try clear hb)
              (try clear hk)
              refine hK.out _ _ ⟨HS0_,HS1_,HS2_,HS3_⟩ (fun hHeld=>?_)
              clear hK K
              refine cW (some 211) ?_
              refine cS (i:=7) (N:=some 215) (bm 11 767) rfl rfl (bI HT_.out (by kernel_rfl)) (by decide) (fun K hK=>?_)
              refine bP Try.func87 #[.agg #[.int .i64 ((aA t137 4).f0),.int .i64 ((aA t137 4).f1)]] ?_
              with_reducible refine (bO ((aA t137 4).f0) ((aA t137 4).f1) t194 t195 t196 _ A206.out).mono ?_
              rintro e w227 ⟨rfl,hb⟩
              have HS0_:=cP hb hHeld.1
              have HS1_:=cP hb hHeld.2.1
              have HS2_:=cP hb hHeld.2.2.1
              have HS3_:=cP hb hHeld.2.2.2
              refine ⟨_,rfl,?_⟩
              replace HO_14:=aD (Kd.R_below (bN HO_14) hb)
              replace HO_15:=aD (Kd.R_below (bN HO_15) hb)
              replace BK188:=aD (aU BK188 hb)
              replace BK200:=aD (aU BK200 hb)
              replace HB:=aD (aE (bM HB) hb)
              (try clear hb)
              (try clear hk)
              refine hK.out _ _ ⟨HS0_,HS1_,HS2_,HS3_⟩ (fun hHeld=>?_)
              clear hK K
              refine cW (some 215) ?_
              refine cS (i:=8) (N:=some 216) (bm 11 1023) rfl rfl (bI HT_.out (by kernel_rfl)) (by decide) (fun K hK=>?_)
              refine bP Try.func82 #[.agg #[.int .i64 t190,.int .i64 t191,.int .i64 t192],.agg #[.int .i64 t194,.int .i64 t195,.int .i64 t196]] ?_
              with_reducible refine (aH kj182 t190 t191 t192 t194 t195 t196 t197 t198 t199 _ A207.out).mono ?_
              rintro e w228 ⟨rfl,hb⟩
              have HS0_:=cP hb hHeld.1
              have HS1_:=cP hb hHeld.2.1
              have HS2_:=cP hb hHeld.2.2.1
              have HS3_:=cP hb hHeld.2.2.2
              refine ⟨_,rfl,?_⟩
              replace HO_14:=aD (Kd.R_below (bN HO_14) hb)
              replace HO_15:=aD (Kd.R_below (bN HO_15) hb)
              replace BK188:=aD (aU BK188 hb)
              replace BK200:=aD (aU BK200 hb)
              replace HB:=aD (aE (bM HB) hb)
              (try clear hb)
              (try clear hk)
              refine hK.out _ _ ⟨HS0_,HS1_,HS2_,HS3_⟩ (fun hHeld=>?_)
              clear hK K
              refine cW (some 216) ?_
              exact fP (by simp only [eC,Act.put,List.setIfInBounds_toArray,List.set_cons_zero,List.set_cons_succ]) (hCont (gb200) _ ⟨hHeld,(bN HO_14),(by (with_reducible repeat (first|apply fK|apply gF|apply eQ));exact Kd.R_mono HO_15.out (fun _ hk=>⟨hk.1.1,⟨hk.1.2.1,⟨hk.1.2.2.1,⟨hk.1.2.2.2.1,⟨hk.1.2.2.2.2.1,⟨hk.1.2.2.2.2.2.1,⟨hk.1.2.2.2.2.2.2.1,⟨hk.1.2.2.2.2.2.2.2,hk.2⟩⟩⟩⟩⟩⟩⟩⟩)),(cF BK188),(cF BK200),GW200.out,GE200.out,NB188_200.out,NB200_188.out,(bM HB)⟩)
            rintro gb200 w229 ⟨hS_,h0_,h1_,h10_,h11_,h12_,h13_,h30_,h31_,h32_⟩
            have n0_:Aside0 (Kd.R gA 80 w229 w.heap.size (fun k_=>k_≠gb150) (.slice (some ad177) t137.length co50) t137):=⟨h0_⟩
            have n1_:Aside0 (Kd.R gG 72 w229 w.heap.size (fun k_=>k_≠gb108∧k_≠gb109∧k_≠gb113∧k_≠gb123∧k_≠gb124∧k_≠gb125∧k_≠gb169∧k_≠gb188∧k_≠gb200) v142 t140):=⟨h1_⟩
            have n10_:Aside0 (w229.heap[gb188]? = some (.cells #[.int .i64 t185,.int .i64 t186,.int .i64 t187] 72 (0,0))):=⟨h10_⟩
            have n11_:Aside0 (w229.heap[gb200]? = some (.cells #[.int .i64 0,.int .i64 0,.int .i64 0] 72 (0,0))):=⟨h11_⟩
            have n12_:Aside0 (w.heap.size≤gb200):=⟨h12_⟩
            have n13_:Aside0 (w.heap.size≤gb200):=⟨h13_⟩
            have n30_:Aside0 (gb188≠gb200):=⟨h30_⟩
            have n31_:Aside0 (gb200≠gb188):=⟨h31_⟩
            have n32_:Aside0 (Below w.heap.size w w229):=⟨h32_⟩
            clear HO_14
            clear HO_15
            skip
            skip
            skip
            skip
            skip
            skip
            skip
            skip
            skip
            clear HB
            clear h0_ h1_ h10_ h11_ h12_ h31_ h32_
            have HO_14:=n0_
            have HO_15:=n1_
            have BK188:=n10_
            have BK200:=n11_
            have GW200:=n12_
            have GE200:=n13_
            have NB188_200:=n30_
            have NB200_188:=n31_
            have HB:=n32_
            clear n0_ n1_ n10_ n11_ n12_ n31_ n32_
            have hHeld:w229.cell? ⟨ad177.block,ad177.off+2,none⟩=some (.int .i64 ((aA t137 1).f0))∧w229.cell? ⟨ad177.block,ad177.off+2+1,none⟩=some (.int .i64 ((aA t137 1).f1))∧w229.cell? ⟨ad177.block,ad177.off+8,none⟩=some (.int .i64 ((aA t137 4).f0))∧w229.cell? ⟨ad177.block,ad177.off+8+1,none⟩=some (.int .i64 ((aA t137 4).f1)):=hS_
            refine fP (a':=?_) ?_ ?_
            rotate_left
            ·simp only [eC,Act.put,List.setIfInBounds_toArray,List.set_cons_zero,List.set_cons_succ]
             rfl
            refine cS (i:=10) (N:=none) (bm 11 2047) rfl rfl (bI HT_.out (by kernel_rfl)) (by decide) (fun K hK=>?_)
            have hs230:w229.cell? ⟨gb200,0,none⟩=some (.int .i64 0):=aT BK200 0
            have hfs230:=aC BK200.out 0
            have hns230_8:=NB188_200.out
            have hms230_8:=NB200_188.out
            have hs231:w229.cell? ⟨gb200,1,none⟩=some (.int .i64 0):=aT BK200 1
            have hfs231:=aC BK200.out 1
            have hns231_8:=NB188_200.out
            have hms231_8:=NB200_188.out
            have hs232:w229.cell? ⟨gb200,2,none⟩=some (.int .i64 0):=aT BK200 2
            have hfs232:=aC BK200.out 2
            have hns232_8:=NB188_200.out
            have hms232_8:=NB200_188.out
            refine fW (w1:=?_) (by rfl) rfl ?_ ?_
            rotate_left
            ·go_simp
             rfl
            refine hK.out _ _ ⟨(dT (Kd.own_blk (Kd.R_ne HO_14.out BK200.out (by decide))) ((dT (Kd.own_blk (Kd.R_ne HO_14.out BK200.out (by decide))) ((dT (Kd.own_blk (Kd.R_ne HO_14.out BK200.out (by decide))) hHeld.1))))),(dT (Kd.own_blk (Kd.R_ne HO_14.out BK200.out (by decide))) ((dT (Kd.own_blk (Kd.R_ne HO_14.out BK200.out (by decide))) ((dT (Kd.own_blk (Kd.R_ne HO_14.out BK200.out (by decide))) hHeld.2.1))))),(dT (Kd.own_blk (Kd.R_ne HO_14.out BK200.out (by decide))) ((dT (Kd.own_blk (Kd.R_ne HO_14.out BK200.out (by decide))) ((dT (Kd.own_blk (Kd.R_ne HO_14.out BK200.out (by decide))) hHeld.2.2.1))))),(dT (Kd.own_blk (Kd.R_ne HO_14.out BK200.out (by decide))) ((dT (Kd.own_blk (Kd.R_ne HO_14.out BK200.out (by decide))) ((dT (Kd.own_blk (Kd.R_ne HO_14.out BK200.out (by decide))) hHeld.2.2.2)))))⟩ (fun hHeld=>?_)
            clear hK K
            refine dD (dZ HT_.out (by kernel_rfl)) ?_
            try go_wp2
            replace HO_14:Aside0 (Kd.R gA 80 (((w229.setCell ⟨gb200,0,none⟩ (.int .i64 t197)).setCell ⟨gb200,1,none⟩ (.int .i64 t198)).setCell ⟨gb200,2,none⟩ (.int .i64 t199)) w.heap.size (fun k_=>k_≠gb150) (.slice (some ad177) t137.length co50) t137):=⟨by (with_reducible repeat (first|apply fK|apply gF|apply eQ));exact Kd.R_mono (Kd.R_far (p:=⟨gb200,2,none⟩) (Kd.R_far (p:=⟨gb200,1,none⟩) (Kd.R_far (p:=⟨gb200,0,none⟩) (Kd.R_types HO_14.out BK200.out (by decide)) (fun _ hk=>hk.2) (.int .i64 t197)) (fun _ hk=>hk.2) (.int .i64 t198)) (fun _ hk=>hk.2) (.int .i64 t199)) (fun _ hk=>hk.1)⟩
            replace HO_15:Aside0 (Kd.R gG 72 (((w229.setCell ⟨gb200,0,none⟩ (.int .i64 t197)).setCell ⟨gb200,1,none⟩ (.int .i64 t198)).setCell ⟨gb200,2,none⟩ (.int .i64 t199)) w.heap.size (fun k_=>k_≠gb108∧k_≠gb109∧k_≠gb113∧k_≠gb123∧k_≠gb124∧k_≠gb125∧k_≠gb169∧k_≠gb188∧k_≠gb200) v142 t140):=⟨by (with_reducible repeat (first|apply fK|apply gF|apply eQ));exact Kd.R_mono (Kd.R_far (p:=⟨gb200,2,none⟩) (Kd.R_far (p:=⟨gb200,1,none⟩) (Kd.R_far (p:=⟨gb200,0,none⟩) (Kd.R_mono HO_15.out (fun k_ hk=>(⟨hk,hk.2.2.2.2.2.2.2.2⟩:_∧k_≠gb200))) (fun _ hk=>hk.2) (.int .i64 t197)) (fun _ hk=>hk.2) (.int .i64 t198)) (fun _ hk=>hk.2) (.int .i64 t199)) (fun _ hk=>⟨hk.1.1,⟨hk.1.2.1,⟨hk.1.2.2.1,⟨hk.1.2.2.2.1,⟨hk.1.2.2.2.2.1,⟨hk.1.2.2.2.2.2.1,⟨hk.1.2.2.2.2.2.2.1,⟨hk.1.2.2.2.2.2.2.2.1,hk.1.2.2.2.2.2.2.2.2⟩⟩⟩⟩⟩⟩⟩⟩)⟩
            replace BK188:Aside0 ((((w229.setCell ⟨gb200,0,none⟩ (.int .i64 t197)).setCell ⟨gb200,1,none⟩ (.int .i64 t198)).setCell ⟨gb200,2,none⟩ (.int .i64 t199)).heap[gb188]? = some (.cells #[.int .i64 t185,.int .i64 t186,.int .i64 t187] 72 (0,0))):=⟨eW BK188⟩
            replace BK200:Aside0 ((((w229.setCell ⟨gb200,0,none⟩ (.int .i64 t197)).setCell ⟨gb200,1,none⟩ (.int .i64 t198)).setCell ⟨gb200,2,none⟩ (.int .i64 t199)).heap[gb200]? = some (.cells #[.int .i64 t197,.int .i64 t198,.int .i64 t199] 72 (0,0))):=⟨eW BK200⟩
            replace HB:Aside0 (Below w.heap.size w (((w229.setCell ⟨gb200,0,none⟩ (.int .i64 t197)).setCell ⟨gb200,1,none⟩ (.int .i64 t198)).setCell ⟨gb200,2,none⟩ (.int .i64 t199))):=⟨bM HB⟩
            generalize (((w229.setCell ⟨gb200,0,none⟩ (.int .i64 t197)).setCell ⟨gb200,1,none⟩ (.int .i64 t198)).setCell ⟨gb200,2,none⟩ (.int .i64 t199))=w233 at HO_14 HO_15 BK188 BK200 HB ⊢
            replace HO_14:=aD (eQ HO_14.out)
            replace HO_15:=aD (eQ HO_15.out)
            replace BK188:=aD (aK BK188.out)
            replace BK200:=aD (aK BK200.out)
            replace HB:=aD (lC HB.out)
            have p201:0≤(2:Int):=(by omega)
            have q201:2<(t137.length:Int):=dX
            obtain ⟨ad201,e201,hx201_0,hx201_1⟩:=cC (Kd.R_reads' HO_14.out).2.2 2 p201 q201
            obtain rfl:ad177=ad201:=(by injection e201)
            (try simp only [show (2:Int).toNat=2 from rfl,Nat.reduceMul,Nat.reduceEqDiff,Go.Addr.add,↓reduceIte] at hx201_0)
            (try simp only [show (2:Int).toNat=2 from rfl,Nat.reduceMul,Nat.reduceEqDiff,Go.Addr.add,↓reduceIte] at hx201_1)
            have qi201:(2<t137.length)=True:=eq_true (by omega)
            (try rw [show ((2:Int)).toNat=2 from rfl] at hx201_0)
            (try rw [show 2*2=4 from rfl] at hx201_0)
            (try rw [show ((2:Int)).toNat=2 from rfl] at hx201_1)
            (try rw [show 2*2=4 from rfl] at hx201_1)
            replace p201:=eq_true p201
            replace q201:=eq_true q201
            have p205:0≤(5:Int):=(by omega)
            have q205:5<(t137.length:Int):=dX
            obtain ⟨ad205,e205,hx205_0,hx205_1⟩:=cC (Kd.R_reads' HO_14.out).2.2 5 p205 q205
            obtain rfl:ad177=ad205:=(by injection e205)
            (try simp only [show (5:Int).toNat=5 from rfl,Nat.reduceMul,Nat.reduceEqDiff,Go.Addr.add,↓reduceIte] at hx205_0)
            (try simp only [show (5:Int).toNat=5 from rfl,Nat.reduceMul,Nat.reduceEqDiff,Go.Addr.add,↓reduceIte] at hx205_1)
            have qi205:(5<t137.length)=True:=eq_true (by omega)
            (try rw [show ((5:Int)).toNat=5 from rfl] at hx205_0)
            (try rw [show 5*2=10 from rfl] at hx205_0)
            (try rw [show ((5:Int)).toNat=5 from rfl] at hx205_1)
            (try rw [show 5*2=10 from rfl] at hx205_1)
            replace p205:=eq_true p205
            replace q205:=eq_true q205
            refine eE (n:=11) (S:=fun w'=>w'.cell? ⟨ad177.block,ad177.off+4,none⟩=some (.int .i64 ((aA t137 2).f0))∧w'.cell? ⟨ad177.block,ad177.off+4+1,none⟩=some (.int .i64 ((aA t137 2).f1))∧w'.cell? ⟨ad177.block,ad177.off+10,none⟩=some (.int .i64 ((aA t137 5).f0))∧w'.cell? ⟨ad177.block,ad177.off+10+1,none⟩=some (.int .i64 ((aA t137 5).f1))) (ds:=[]) (bm 11 0) (by kernel_rfl) rfl rfl ⟨hx201_0,hx201_1,hx205_0,hx205_1⟩ (fun hHeld=>?_);refine cX mY lZ (fun HT_ HW_=>?_)
            generalize w233.drew=w234 at HO_14 HO_15 BK188 BK200 HB hx201_0 hx201_1 hx205_0 hx205_1 hHeld ⊢
            refine dG ((0,0,217,1)::(0,1,218,3)::(0,4,221,19)::(0,5,222,51)::(2,2,219,55)::(2,6,223,119)::[]) ?_
            iterate 6 (first|refine jT HT_ ?_|refine qB HT_ HW_ hHeld ?_)
            refine bL ?_
            refine sO (σ:=Nat) 1 (bm 11 1023) (fun s_=>[(220,.agg #[.int .i64 t202,.int .i64 t203,.int .i64 t204]),(224,.agg #[.int .i64 t206,.int .i64 t207,.int .i64 t208]),(225,.agg #[.int .i64 t209,.int .i64 t210,.int .i64 t211]),(23,.pointer (some ⟨s_,0,none⟩))]) (fun s_ w'=>(w'.cell? ⟨ad177.block,ad177.off+4,none⟩=some (.int .i64 ((aA t137 2).f0))∧w'.cell? ⟨ad177.block,ad177.off+4+1,none⟩=some (.int .i64 ((aA t137 2).f1))∧w'.cell? ⟨ad177.block,ad177.off+10,none⟩=some (.int .i64 ((aA t137 5).f0))∧w'.cell? ⟨ad177.block,ad177.off+10+1,none⟩=some (.int .i64 ((aA t137 5).f1)))∧(Kd.R gA 80 w' w.heap.size (fun k_=>k_≠gb150) (.slice (some ad177) t137.length co50) t137)∧(Kd.R gG 72 w' w.heap.size (fun k_=>k_≠gb108∧k_≠gb109∧k_≠gb113∧k_≠gb123∧k_≠gb124∧k_≠gb125∧k_≠gb169∧k_≠gb188∧k_≠gb200∧k_≠s_) v142 t140)∧(w'.heap[gb188]? = some (.cells #[.int .i64 t185,.int .i64 t186,.int .i64 t187] 72 (0,0)))∧(w'.heap[gb200]? = some (.cells #[.int .i64 t197,.int .i64 t198,.int .i64 t199] 72 (0,0)))∧(w'.heap[s_]? = some (.cells #[.int .i64 0,.int .i64 0,.int .i64 0] 72 (0,0)))∧(w.heap.size≤s_)∧(w.heap.size≤s_)∧(gb188≠s_)∧(s_≠gb188)∧(gb200≠s_)∧(s_≠gb200)∧(Below w.heap.size w w')) ?_ ?_
            rotate_left
            ·intro hCont
             refine mF (i:=3) (j:=9) (Ni:=some 220) (Nj:=some 23) (bm 11 127) (bm 11 631) rfl rfl rfl rfl (gV HT_.out (by kernel_rfl)) (by decide) (by decide) (fun K hK=>?_) (fun K hK=>?_)
             ·skip
              refine bP Try.func87 #[.agg #[.int .i64 ((aA t137 2).f0),.int .i64 ((aA t137 2).f1)]] ?_
              with_reducible refine (bO ((aA t137 2).f0) ((aA t137 2).f1) t202 t203 t204 _ A209.out).mono ?_
              rintro e w235 ⟨rfl,hb⟩
              have HS0_:=cP hb hHeld.1
              have HS1_:=cP hb hHeld.2.1
              have HS2_:=cP hb hHeld.2.2.1
              have HS3_:=cP hb hHeld.2.2.2
              refine ⟨_,rfl,?_⟩
              replace HO_14:=aD (Kd.R_below (bN HO_14) hb)
              replace HO_15:=aD (Kd.R_below (bN HO_15) hb)
              replace BK188:=aD (aU BK188 hb)
              replace BK200:=aD (aU BK200 hb)
              replace HB:=aD (aE (bM HB) hb)
              (try clear hb)
              (try clear hk)
              refine hK.out _ _ ⟨HS0_,HS1_,HS2_,HS3_⟩ (fun hHeld=>?_)
              clear hK K
              refine cW (some 220) ?_
              refine mF (i:=7) (j:=9) (Ni:=some 224) (Nj:=some 23) (bm 11 255) (bm 11 639) rfl rfl rfl rfl (gV HT_.out (by kernel_rfl)) (by decide) (by decide) (fun K hK=>?_) (fun K hK=>?_)
              ·skip
               refine bP Try.func87 #[.agg #[.int .i64 ((aA t137 5).f0),.int .i64 ((aA t137 5).f1)]] ?_
               with_reducible refine (bO ((aA t137 5).f0) ((aA t137 5).f1) t206 t207 t208 _ A211.out).mono ?_
               rintro e w236 ⟨rfl,hb⟩
               have HS0_:=cP hb hHeld.1
               have HS1_:=cP hb hHeld.2.1
               have HS2_:=cP hb hHeld.2.2.1
               have HS3_:=cP hb hHeld.2.2.2
               refine ⟨_,rfl,?_⟩
               replace HO_14:=aD (Kd.R_below (bN HO_14) hb)
               replace HO_15:=aD (Kd.R_below (bN HO_15) hb)
               replace BK188:=aD (aU BK188 hb)
               replace BK200:=aD (aU BK200 hb)
               replace HB:=aD (aE (bM HB) hb)
               (try clear hb)
               (try clear hk)
               refine hK.out _ _ ⟨HS0_,HS1_,HS2_,HS3_⟩ (fun hHeld=>?_)
               clear hK K
               refine cW (some 224) ?_
               refine mF (i:=8) (j:=9) (Ni:=some 225) (Nj:=some 23) (bm 11 511) (bm 11 767) rfl rfl rfl rfl (gV HT_.out (by kernel_rfl)) (by decide) (by decide) (fun K hK=>?_) (fun K hK=>?_)
               ·skip
                refine bP Try.func82 #[.agg #[.int .i64 t202,.int .i64 t203,.int .i64 t204],.agg #[.int .i64 t206,.int .i64 t207,.int .i64 t208]] ?_
                with_reducible refine (aH kj182 t202 t203 t204 t206 t207 t208 t209 t210 t211 _ A212.out).mono ?_
                rintro e w237 ⟨rfl,hb⟩
                have HS0_:=cP hb hHeld.1
                have HS1_:=cP hb hHeld.2.1
                have HS2_:=cP hb hHeld.2.2.1
                have HS3_:=cP hb hHeld.2.2.2
                refine ⟨_,rfl,?_⟩
                replace HO_14:=aD (Kd.R_below (bN HO_14) hb)
                replace HO_15:=aD (Kd.R_below (bN HO_15) hb)
                replace BK188:=aD (aU BK188 hb)
                replace BK200:=aD (aU BK200 hb)
                replace HB:=aD (aE (bM HB) hb)
                (try clear hb)
                (try clear hk)
                refine hK.out _ _ ⟨HS0_,HS1_,HS2_,HS3_⟩ (fun hHeld=>?_)
                clear hK K
                refine cW (some 225) ?_
                refine cS (i:=9) (N:=some 23) (bm 11 1023) rfl rfl (bI HT_.out (by kernel_rfl)) (by decide) (fun K hK=>?_)
                refine dQ ?hg (N:=23) ?hd (cs:=#[.int .i64 0,.int .i64 0,.int .i64 0]) (t:=72) ?hr ?_;(case hd=>rfl);(case hg=>rfl);(case hr=>first|(go_simp;done)|(go_simp;rfl))
                intro gb212 hg w238 hbox hb
                have HS0_:=cP hb hHeld.1
                have HS1_:=cP hb hHeld.2.1
                have HS2_:=cP hb hHeld.2.2.1
                have HS3_:=cP hb hHeld.2.2.2
                replace HO_14:=aD (Kd.R_below (bN HO_14) hb)
                replace HO_15:=aD (Kd.R_below (Kd.R_elderB (bN HO_15) gb212 (Nat.le_of_eq hg.symm)) hb)
                have BK212:=aD (hbox)
                have GW212:=aD ((cZ HB hg))
                have GE212:=aD ((cZ HB hg))
                replace HB:=aD (aE (bM HB) hb)
                have NB188_212:=aD ((bW BK188 hg))
                have NB212_188:=aD ((bX BK188 hg))
                replace BK188:=aD (aU BK188 hb)
                have NB200_212:=aD ((bW BK200 hg))
                have NB212_200:=aD ((bX BK200 hg))
                replace BK200:=aD (aU BK200 hb)
                clear hb hbox hg
                refine hK.out _ _ ⟨HS0_,HS1_,HS2_,HS3_⟩ (fun hHeld=>?_)
                clear hK K
                refine cW (some 23) ?_
                exact fP (by simp only [eC,Act.put,List.setIfInBounds_toArray,List.set_cons_zero,List.set_cons_succ]) (hCont (gb212) _ ⟨hHeld,(bN HO_14),(by (with_reducible repeat (first|apply fK|apply gF|apply eQ));exact Kd.R_mono HO_15.out (fun _ hk=>⟨hk.1.1,⟨hk.1.2.1,⟨hk.1.2.2.1,⟨hk.1.2.2.2.1,⟨hk.1.2.2.2.2.1,⟨hk.1.2.2.2.2.2.1,⟨hk.1.2.2.2.2.2.2.1,⟨hk.1.2.2.2.2.2.2.2.1,⟨hk.1.2.2.2.2.2.2.2.2,hk.2⟩⟩⟩⟩⟩⟩⟩⟩⟩)),(cF BK188),(cF BK200),(cF BK212),GW212.out,GE212.out,NB188_212.out,NB212_188.out,NB200_212.out,NB212_200.out,(bM HB)⟩)
               ·skip
                refine dQ ?hg (N:=23) ?hd (cs:=#[.int .i64 0,.int .i64 0,.int .i64 0]) (t:=72) ?hr ?_;(case hd=>rfl);(case hg=>rfl);(case hr=>first|(go_simp;done)|(go_simp;rfl))
                intro gb212 hg w237 hbox hb
                have HS0_:=cP hb hHeld.1
                have HS1_:=cP hb hHeld.2.1
                have HS2_:=cP hb hHeld.2.2.1
                have HS3_:=cP hb hHeld.2.2.2
                replace HO_14:=aD (Kd.R_below (bN HO_14) hb)
                replace HO_15:=aD (Kd.R_below (Kd.R_elderB (bN HO_15) gb212 (Nat.le_of_eq hg.symm)) hb)
                have BK212:=aD (hbox)
                have GW212:=aD ((cZ HB hg))
                have GE212:=aD ((cZ HB hg))
                replace HB:=aD (aE (bM HB) hb)
                have NB188_212:=aD ((bW BK188 hg))
                have NB212_188:=aD ((bX BK188 hg))
                replace BK188:=aD (aU BK188 hb)
                have NB200_212:=aD ((bW BK200 hg))
                have NB212_200:=aD ((bX BK200 hg))
                replace BK200:=aD (aU BK200 hb)
                clear hb hbox hg
                refine hK.out _ _ ⟨HS0_,HS1_,HS2_,HS3_⟩ (fun hHeld=>?_)
                clear hK K
                refine cW (some 23) ?_
                refine cS (i:=8) (N:=some 225) (bm 11 1023) rfl rfl (bI HT_.out (by kernel_rfl)) (by decide) (fun K hK=>?_)
                refine bP Try.func82 #[.agg #[.int .i64 t202,.int .i64 t203,.int .i64 t204],.agg #[.int .i64 t206,.int .i64 t207,.int .i64 t208]] ?_
                with_reducible refine (aH kj182 t202 t203 t204 t206 t207 t208 t209 t210 t211 _ A212.out).mono ?_
                rintro e w238 ⟨rfl,hb⟩
                have HS0_:=cP hb hHeld.1
                have HS1_:=cP hb hHeld.2.1
                have HS2_:=cP hb hHeld.2.2.1
                have HS3_:=cP hb hHeld.2.2.2
                refine ⟨_,rfl,?_⟩
                replace HO_14:=aD (Kd.R_below (bN HO_14) hb)
                replace HO_15:=aD (Kd.R_below (bN HO_15) hb)
                replace BK188:=aD (aU BK188 hb)
                replace BK200:=aD (aU BK200 hb)
                replace BK212:=aD (aU BK212 hb)
                replace HB:=aD (aE (bM HB) hb)
                (try clear hb)
                (try clear hk)
                refine hK.out _ _ ⟨HS0_,HS1_,HS2_,HS3_⟩ (fun hHeld=>?_)
                clear hK K
                refine cW (some 225) ?_
                exact fP (by simp only [eC,Act.put,List.setIfInBounds_toArray,List.set_cons_zero,List.set_cons_succ]) (hCont (gb212) _ ⟨hHeld,(bN HO_14),(by (with_reducible repeat (first|apply fK|apply gF|apply eQ));exact Kd.R_mono HO_15.out (fun _ hk=>⟨hk.1.1,⟨hk.1.2.1,⟨hk.1.2.2.1,⟨hk.1.2.2.2.1,⟨hk.1.2.2.2.2.1,⟨hk.1.2.2.2.2.2.1,⟨hk.1.2.2.2.2.2.2.1,⟨hk.1.2.2.2.2.2.2.2.1,⟨hk.1.2.2.2.2.2.2.2.2,hk.2⟩⟩⟩⟩⟩⟩⟩⟩⟩)),(cF BK188),(cF BK200),(cF BK212),GW212.out,GE212.out,NB188_212.out,NB212_188.out,NB200_212.out,NB212_200.out,(bM HB)⟩)
              ·skip
               refine dQ ?hg (N:=23) ?hd (cs:=#[.int .i64 0,.int .i64 0,.int .i64 0]) (t:=72) ?hr ?_;(case hd=>rfl);(case hg=>rfl);(case hr=>first|(go_simp;done)|(go_simp;rfl))
               intro gb212 hg w236 hbox hb
               have HS0_:=cP hb hHeld.1
               have HS1_:=cP hb hHeld.2.1
               have HS2_:=cP hb hHeld.2.2.1
               have HS3_:=cP hb hHeld.2.2.2
               replace HO_14:=aD (Kd.R_below (bN HO_14) hb)
               replace HO_15:=aD (Kd.R_below (Kd.R_elderB (bN HO_15) gb212 (Nat.le_of_eq hg.symm)) hb)
               have BK212:=aD (hbox)
               have GW212:=aD ((cZ HB hg))
               have GE212:=aD ((cZ HB hg))
               replace HB:=aD (aE (bM HB) hb)
               have NB188_212:=aD ((bW BK188 hg))
               have NB212_188:=aD ((bX BK188 hg))
               replace BK188:=aD (aU BK188 hb)
               have NB200_212:=aD ((bW BK200 hg))
               have NB212_200:=aD ((bX BK200 hg))
               replace BK200:=aD (aU BK200 hb)
               clear hb hbox hg
               refine hK.out _ _ ⟨HS0_,HS1_,HS2_,HS3_⟩ (fun hHeld=>?_)
               clear hK K
               refine cW (some 23) ?_
               refine cS (i:=7) (N:=some 224) (bm 11 767) rfl rfl (bI HT_.out (by kernel_rfl)) (by decide) (fun K hK=>?_)
               refine bP Try.func87 #[.agg #[.int .i64 ((aA t137 5).f0),.int .i64 ((aA t137 5).f1)]] ?_
               with_reducible refine (bO ((aA t137 5).f0) ((aA t137 5).f1) t206 t207 t208 _ A211.out).mono ?_
               rintro e w237 ⟨rfl,hb⟩
               have HS0_:=cP hb hHeld.1
               have HS1_:=cP hb hHeld.2.1
               have HS2_:=cP hb hHeld.2.2.1
               have HS3_:=cP hb hHeld.2.2.2
               refine ⟨_,rfl,?_⟩
               replace HO_14:=aD (Kd.R_below (bN HO_14) hb)
               replace HO_15:=aD (Kd.R_below (bN HO_15) hb)
               replace BK188:=aD (aU BK188 hb)
               replace BK200:=aD (aU BK200 hb)
               replace BK212:=aD (aU BK212 hb)
               replace HB:=aD (aE (bM HB) hb)
               (try clear hb)
               (try clear hk)
               refine hK.out _ _ ⟨HS0_,HS1_,HS2_,HS3_⟩ (fun hHeld=>?_)
               clear hK K
               refine cW (some 224) ?_
               refine cS (i:=8) (N:=some 225) (bm 11 1023) rfl rfl (bI HT_.out (by kernel_rfl)) (by decide) (fun K hK=>?_)
               refine bP Try.func82 #[.agg #[.int .i64 t202,.int .i64 t203,.int .i64 t204],.agg #[.int .i64 t206,.int .i64 t207,.int .i64 t208]] ?_
               with_reducible refine (aH kj182 t202 t203 t204 t206 t207 t208 t209 t210 t211 _ A212.out).mono ?_
               rintro e w238 ⟨rfl,hb⟩
               have HS0_:=cP hb hHeld.1
               have HS1_:=cP hb hHeld.2.1
               have HS2_:=cP hb hHeld.2.2.1
               have HS3_:=cP hb hHeld.2.2.2
               refine ⟨_,rfl,?_⟩
               replace HO_14:=aD (Kd.R_below (bN HO_14) hb)
               replace HO_15:=aD (Kd.R_below (bN HO_15) hb)
               replace BK188:=aD (aU BK188 hb)
               replace BK200:=aD (aU BK200 hb)
               replace BK212:=aD (aU BK212 hb)
               replace HB:=aD (aE (bM HB) hb)
               (try clear hb)
               (try clear hk)
               refine hK.out _ _ ⟨HS0_,HS1_,HS2_,HS3_⟩ (fun hHeld=>?_)
               clear hK K
               refine cW (some 225) ?_
               exact fP (by simp only [eC,Act.put,List.setIfInBounds_toArray,List.set_cons_zero,List.set_cons_succ]) (hCont (gb212) _ ⟨hHeld,(bN HO_14),(by (with_reducible repeat (first|apply fK|apply gF|apply eQ));exact Kd.R_mono HO_15.out (fun _ hk=>⟨hk.1.1,⟨hk.1.2.1,⟨hk.1.2.2.1,⟨hk.1.2.2.2.1,⟨hk.1.2.2.2.2.1,⟨hk.1.2.2.2.2.2.1,⟨hk.1.2.2.2.2.2.2.1,⟨hk.1.2.2.2.2.2.2.2.1,⟨hk.1.2.2.2.2.2.2.2.2,hk.2⟩⟩⟩⟩⟩⟩⟩⟩⟩)),(cF BK188),(cF BK200),(cF BK212),GW212.out,GE212.out,NB188_212.out,NB212_188.out,NB200_212.out,NB212_200.out,(bM HB)⟩)
             ·skip
              refine dQ ?hg (N:=23) ?hd (cs:=#[.int .i64 0,.int .i64 0,.int .i64 0]) (t:=72) ?hr ?_;(case hd=>rfl);(case hg=>rfl);(case hr=>first|(go_simp;done)|(go_simp;rfl))
              intro gb212 hg w235 hbox hb
              have HS0_:=cP hb hHeld.1
              have HS1_:=cP hb hHeld.2.1
              have HS2_:=cP hb hHeld.2.2.1
              have HS3_:=cP hb hHeld.2.2.2
              replace HO_14:=aD (Kd.R_below (bN HO_14) hb)
              replace HO_15:=aD (Kd.R_below (Kd.R_elderB (bN HO_15) gb212 (Nat.le_of_eq hg.symm)) hb)
              have BK212:=aD (hbox)
              have GW212:=aD ((cZ HB hg))
              have GE212:=aD ((cZ HB hg))
              replace HB:=aD (aE (bM HB) hb)
              have NB188_212:=aD ((bW BK188 hg))
              have NB212_188:=aD ((bX BK188 hg))
              replace BK188:=aD (aU BK188 hb)
              have NB200_212:=aD ((bW BK200 hg))
              have NB212_200:=aD ((bX BK200 hg))
              replace BK200:=aD (aU BK200 hb)
              clear hb hbox hg
              refine hK.out _ _ ⟨HS0_,HS1_,HS2_,HS3_⟩ (fun hHeld=>?_)
              clear hK K
              refine cW (some 23) ?_
              refine cS (i:=3) (N:=some 220) (bm 11 639) rfl rfl (bI HT_.out (by kernel_rfl)) (by decide) (fun K hK=>?_)
              refine bP Try.func87 #[.agg #[.int .i64 ((aA t137 2).f0),.int .i64 ((aA t137 2).f1)]] ?_
              with_reducible refine (bO ((aA t137 2).f0) ((aA t137 2).f1) t202 t203 t204 _ A209.out).mono ?_
              rintro e w236 ⟨rfl,hb⟩
              have HS0_:=cP hb hHeld.1
              have HS1_:=cP hb hHeld.2.1
              have HS2_:=cP hb hHeld.2.2.1
              have HS3_:=cP hb hHeld.2.2.2
              refine ⟨_,rfl,?_⟩
              replace HO_14:=aD (Kd.R_below (bN HO_14) hb)
              replace HO_15:=aD (Kd.R_below (bN HO_15) hb)
              replace BK188:=aD (aU BK188 hb)
              replace BK200:=aD (aU BK200 hb)
              replace BK212:=aD (aU BK212 hb)
              replace HB:=aD (aE (bM HB) hb)
              (try clear hb)
              (try clear hk)
              refine hK.out _ _ ⟨HS0_,HS1_,HS2_,HS3_⟩ (fun hHeld=>?_)
              clear hK K
              refine cW (some 220) ?_
              refine cS (i:=7) (N:=some 224) (bm 11 767) rfl rfl (bI HT_.out (by kernel_rfl)) (by decide) (fun K hK=>?_)
              refine bP Try.func87 #[.agg #[.int .i64 ((aA t137 5).f0),.int .i64 ((aA t137 5).f1)]] ?_
              with_reducible refine (bO ((aA t137 5).f0) ((aA t137 5).f1) t206 t207 t208 _ A211.out).mono ?_
              rintro e w237 ⟨rfl,hb⟩
              have HS0_:=cP hb hHeld.1
              have HS1_:=cP hb hHeld.2.1
              have HS2_:=cP hb hHeld.2.2.1
              have HS3_:=cP hb hHeld.2.2.2
              refine ⟨_,rfl,?_⟩
              replace HO_14:=aD (Kd.R_below (bN HO_14) hb)
              replace HO_15:=aD (Kd.R_below (bN HO_15) hb)
              replace BK188:=aD (aU BK188 hb)
              replace BK200:=aD (aU BK200 hb)
              replace BK212:=aD (aU BK212 hb)
              replace HB:=aD (aE (bM HB) hb)
              (try clear hb)
              (try clear hk)
              refine hK.out _ _ ⟨HS0_,HS1_,HS2_,HS3_⟩ (fun hHeld=>?_)
              clear hK K
              refine cW (some 224) ?_
              refine cS (i:=8) (N:=some 225) (bm 11 1023) rfl rfl (bI HT_.out (by kernel_rfl)) (by decide) (fun K hK=>?_)
              refine bP Try.func82 #[.agg #[.int .i64 t202,.int .i64 t203,.int .i64 t204],.agg #[.int .i64 t206,.int .i64 t207,.int .i64 t208]] ?_
              with_reducible refine (aH kj182 t202 t203 t204 t206 t207 t208 t209 t210 t211 _ A212.out).mono ?_
              rintro e w238 ⟨rfl,hb⟩
              have HS0_:=cP hb hHeld.1
              have HS1_:=cP hb hHeld.2.1
              have HS2_:=cP hb hHeld.2.2.1
              have HS3_:=cP hb hHeld.2.2.2
              refine ⟨_,rfl,?_⟩
              replace HO_14:=aD (Kd.R_below (bN HO_14) hb)
              replace HO_15:=aD (Kd.R_below (bN HO_15) hb)
              replace BK188:=aD (aU BK188 hb)
              replace BK200:=aD (aU BK200 hb)
              replace BK212:=aD (aU BK212 hb)
              replace HB:=aD (aE (bM HB) hb)
              (try clear hb)
              (try clear hk)
              refine hK.out _ _ ⟨HS0_,HS1_,HS2_,HS3_⟩ (fun hHeld=>?_)
              clear hK K
              refine cW (some 225) ?_
              exact fP (by simp only [eC,Act.put,List.setIfInBounds_toArray,List.set_cons_zero,List.set_cons_succ]) (hCont (gb212) _ ⟨hHeld,(bN HO_14),(by (with_reducible repeat (first|apply fK|apply gF|apply eQ));exact Kd.R_mono HO_15.out (fun _ hk=>⟨hk.1.1,⟨hk.1.2.1,⟨hk.1.2.2.1,⟨hk.1.2.2.2.1,⟨hk.1.2.2.2.2.1,⟨hk.1.2.2.2.2.2.1,⟨hk.1.2.2.2.2.2.2.1,⟨hk.1.2.2.2.2.2.2.2.1,⟨hk.1.2.2.2.2.2.2.2.2,hk.2⟩⟩⟩⟩⟩⟩⟩⟩⟩)),(cF BK188),(cF BK200),(cF BK212),GW212.out,GE212.out,NB188_212.out,NB212_188.out,NB200_212.out,NB212_200.out,(bM HB)⟩)
            rintro gb212 w239 ⟨hS_,h0_,h1_,h10_,h11_,h12_,h13_,h14_,h31_,h32_,h33_,h34_,h35_⟩
            have n0_:Aside0 (Kd.R gA 80 w239 w.heap.size (fun k_=>k_≠gb150) (.slice (some ad177) t137.length co50) t137):=⟨h0_⟩
            have n1_:Aside0 (Kd.R gG 72 w239 w.heap.size (fun k_=>k_≠gb108∧k_≠gb109∧k_≠gb113∧k_≠gb123∧k_≠gb124∧k_≠gb125∧k_≠gb169∧k_≠gb188∧k_≠gb200∧k_≠gb212) v142 t140):=⟨h1_⟩
            have n10_:Aside0 (w239.heap[gb188]? = some (.cells #[.int .i64 t185,.int .i64 t186,.int .i64 t187] 72 (0,0))):=⟨h10_⟩
            have n11_:Aside0 (w239.heap[gb200]? = some (.cells #[.int .i64 t197,.int .i64 t198,.int .i64 t199] 72 (0,0))):=⟨h11_⟩
            have n12_:Aside0 (w239.heap[gb212]? = some (.cells #[.int .i64 0,.int .i64 0,.int .i64 0] 72 (0,0))):=⟨h12_⟩
            have n13_:Aside0 (w.heap.size≤gb212):=⟨h13_⟩
            have n14_:Aside0 (w.heap.size≤gb212):=⟨h14_⟩
            have n31_:Aside0 (gb188≠gb212):=⟨h31_⟩
            have n32_:Aside0 (gb212≠gb188):=⟨h32_⟩
            have n33_:Aside0 (gb200≠gb212):=⟨h33_⟩
            have n34_:Aside0 (gb212≠gb200):=⟨h34_⟩
            have n35_:Aside0 (Below w.heap.size w w239):=⟨h35_⟩
            clear HO_14
            clear HO_15
            skip
            skip
            skip
            skip
            skip
            skip
            skip
            skip
            skip
            skip
            clear HB
            clear h0_ h1_ h10_ h11_ h12_ h31_ h32_ h33_ h34_ h35_
            have HO_14:=n0_
            have HO_15:=n1_
            have BK188:=n10_
            have BK200:=n11_
            have BK212:=n12_
            have GW212:=n13_
            have GE212:=n14_
            have NB188_212:=n31_
            have NB212_188:=n32_
            have NB200_212:=n33_
            have NB212_200:=n34_
            have HB:=n35_
            clear n0_ n1_ n10_ n11_ n12_ n31_ n32_ n33_ n34_ n35_
            have hHeld:w239.cell? ⟨ad177.block,ad177.off+4,none⟩=some (.int .i64 ((aA t137 2).f0))∧w239.cell? ⟨ad177.block,ad177.off+4+1,none⟩=some (.int .i64 ((aA t137 2).f1))∧w239.cell? ⟨ad177.block,ad177.off+10,none⟩=some (.int .i64 ((aA t137 5).f0))∧w239.cell? ⟨ad177.block,ad177.off+10+1,none⟩=some (.int .i64 ((aA t137 5).f1)):=hS_
            refine fP (a':=?_) ?_ ?_
            rotate_left
            ·simp only [eC,Act.put,List.setIfInBounds_toArray,List.set_cons_zero,List.set_cons_succ]
             rfl
            refine cS (i:=10) (N:=none) (bm 11 2047) rfl rfl (bI HT_.out (by kernel_rfl)) (by decide) (fun K hK=>?_)
            have hs240:w239.cell? ⟨gb212,0,none⟩=some (.int .i64 0):=aT BK212 0
            have hfs240:=aC BK212.out 0
            have hns240_8:=NB188_212.out
            have hns240_9:=NB200_212.out
            have hms240_8:=NB212_188.out
            have hms240_9:=NB212_200.out
            have hs241:w239.cell? ⟨gb212,1,none⟩=some (.int .i64 0):=aT BK212 1
            have hfs241:=aC BK212.out 1
            have hns241_8:=NB188_212.out
            have hns241_9:=NB200_212.out
            have hms241_8:=NB212_188.out
            have hms241_9:=NB212_200.out
            have hs242:w239.cell? ⟨gb212,2,none⟩=some (.int .i64 0):=aT BK212 2
            have hfs242:=aC BK212.out 2
            have hns242_8:=NB188_212.out
            have hns242_9:=NB200_212.out
            have hms242_8:=NB212_188.out
            have hms242_9:=NB212_200.out
            refine fW (w1:=?_) (by rfl) rfl ?_ ?_
            rotate_left
            ·go_simp
             rfl
            refine hK.out _ _ ⟨(dT (Kd.own_blk (Kd.R_ne HO_14.out BK212.out (by decide))) ((dT (Kd.own_blk (Kd.R_ne HO_14.out BK212.out (by decide))) ((dT (Kd.own_blk (Kd.R_ne HO_14.out BK212.out (by decide))) hHeld.1))))),(dT (Kd.own_blk (Kd.R_ne HO_14.out BK212.out (by decide))) ((dT (Kd.own_blk (Kd.R_ne HO_14.out BK212.out (by decide))) ((dT (Kd.own_blk (Kd.R_ne HO_14.out BK212.out (by decide))) hHeld.2.1))))),(dT (Kd.own_blk (Kd.R_ne HO_14.out BK212.out (by decide))) ((dT (Kd.own_blk (Kd.R_ne HO_14.out BK212.out (by decide))) ((dT (Kd.own_blk (Kd.R_ne HO_14.out BK212.out (by decide))) hHeld.2.2.1))))),(dT (Kd.own_blk (Kd.R_ne HO_14.out BK212.out (by decide))) ((dT (Kd.own_blk (Kd.R_ne HO_14.out BK212.out (by decide))) ((dT (Kd.own_blk (Kd.R_ne HO_14.out BK212.out (by decide))) hHeld.2.2.2)))))⟩ (fun hHeld=>?_)
            clear hK K
            refine dD (dZ HT_.out (by kernel_rfl)) ?_
            go_upto_region 26 with (first|((with_reducible refine aW (N:=24) rfl ?_);(try (refine fG (by rfl) ?_;dsimp only));refine bS (N:=24) #[.int .i64 0,.int .i64 0,.int .i64 0] 72 ?_;intro gb213 hg w243 hbox hb;replace HO_14:=aD (Kd.R_below (by (with_reducible repeat (first|apply fK|apply gF|apply eQ));exact (Kd.R_mono (Kd.R_far (p:=⟨gb212,2,none⟩) (Kd.R_far (p:=⟨gb212,1,none⟩) (Kd.R_far (p:=⟨gb212,0,none⟩) (Kd.R_types HO_14.out BK212.out (by decide)) (fun _ hk=>hk.2) (.int .i64 t209)) (fun _ hk=>hk.2) (.int .i64 t210)) (fun _ hk=>hk.2) (.int .i64 t211)) (fun _ h_=>h_.1))) hb);replace HO_15:=aD (Kd.R_below (Kd.R_elderB (by (with_reducible repeat (first|apply fK|apply gF|apply eQ));exact (Kd.R_mono (Kd.R_far (p:=⟨gb212,2,none⟩) (Kd.R_far (p:=⟨gb212,1,none⟩) (Kd.R_far (p:=⟨gb212,0,none⟩) (Kd.R_mono HO_15.out (fun k_ hk=>(⟨hk,hk.2.2.2.2.2.2.2.2.2⟩:_∧k_≠gb212))) (fun _ hk=>hk.2) (.int .i64 t209)) (fun _ hk=>hk.2) (.int .i64 t210)) (fun _ hk=>hk.2) (.int .i64 t211)) (fun _ h_=>h_.1))) gb213 (Nat.le_of_eq hg.symm)) hb);have BK213:=aD (hbox);have GW213:=aD ((cZ HB hg));have GE213:=aD ((cZ HB hg));replace HB:=aD (aE (bM HB) hb);have NB188_213:=aD ((by rw [hg];exact Nat.ne_of_lt (gT (g:=gb188) (o:=.cells #[.int .i64 t185,.int .i64 t186,.int .i64 t187] 72 (0,0)) (eW BK188)):gb188≠gb213));have NB213_188:=aD ((by rw [hg];exact Nat.ne_of_gt (gT (g:=gb188) (o:=.cells #[.int .i64 t185,.int .i64 t186,.int .i64 t187] 72 (0,0)) (eW BK188)):gb213≠gb188));replace BK188:=aD (bG (g:=gb188) (o:=.cells #[.int .i64 t185,.int .i64 t186,.int .i64 t187] 72 (0,0)) (eW BK188) hb);have NB200_213:=aD ((by rw [hg];exact Nat.ne_of_lt (gT (g:=gb200) (o:=.cells #[.int .i64 t197,.int .i64 t198,.int .i64 t199] 72 (0,0)) (eW BK200)):gb200≠gb213));have NB213_200:=aD ((by rw [hg];exact Nat.ne_of_gt (gT (g:=gb200) (o:=.cells #[.int .i64 t197,.int .i64 t198,.int .i64 t199] 72 (0,0)) (eW BK200)):gb213≠gb200));replace BK200:=aD (bG (g:=gb200) (o:=.cells #[.int .i64 t197,.int .i64 t198,.int .i64 t199] 72 (0,0)) (eW BK200) hb);have NB212_213:=aD ((by rw [hg];exact Nat.ne_of_lt (gT (g:=gb212) (o:=.cells #[.int .i64 t209,.int .i64 t210,.int .i64 t211] 72 (0,0)) (eW BK212)):gb212≠gb213));have NB213_212:=aD ((by rw [hg];exact Nat.ne_of_gt (gT (g:=gb212) (o:=.cells #[.int .i64 t209,.int .i64 t210,.int .i64 t211] 72 (0,0)) (eW BK212)):gb213≠gb212));replace BK212:=aD (bG (g:=gb212) (o:=.cells #[.int .i64 t209,.int .i64 t210,.int .i64 t211] 72 (0,0)) (eW BK212) hb);clear hb hbox hg;have hnb252:=NB213_188.out;have hnc252:=NB188_213.out;have hnb253:=NB213_200.out;have hnc253:=NB200_213.out;have hnb254:=NB213_212.out;have hnc254:=NB212_213.out;have hcz255_0:=aT BK213 0;have hcz255_1:=aT BK213 1;have hcz255_2:=aT BK213 2;have hfz255_0:=aC BK213.out 0;have hfz255_1:=aC BK213.out 1;have hfz255_2:=aC BK213.out 2))
            (try simp only [Act.put,List.setIfInBounds_toArray,List.set_cons_zero,List.set_cons_succ])
            go_cut [245] (fun v245 wc=>∃ (kq:Nat) (x245_212:Bool),v245=.bool x245_212∧Aside0 (dS kq t137 t140 x245_212=some true)∧Aside0 (kq≤kj182)∧Aside0 (Kd.R gA 80 wc w.heap.size (fun k_=>k_≠gb150) (.slice (some ad177) t137.length co50) t137)∧Aside0 (Kd.R gG 72 wc w.heap.size (fun k_=>k_≠gb108∧k_≠gb109∧k_≠gb113∧k_≠gb123∧k_≠gb124∧k_≠gb125∧k_≠gb169∧k_≠gb188∧k_≠gb200∧k_≠gb212∧k_≠gb213) v142 t140)∧Aside0 (Below w.heap.size w wc))
            case first=>as_aux_lemma =>
             have H:=HC213.out
             clear HC213
             replace H:=fQ H
             obtain ⟨⟨t214,t215,t216⟩,A256,H⟩:=H
             try dsimp only at H
             replace H:=kK H
             rcases H with ⟨c257,H⟩|⟨c257,H⟩
             ·have c257b0:(t214==0&&(t215==0&&(t216==0)))=true:=c257
              clear c257
              (first|rw [c257b0]|(simp only [aZ,bB];rw [c257b0])|skip)
              have H':=aD H
              clear H
              try go_wp2
              replace HO_14:Aside0 (Kd.R gA 80 (((w243.setCell ⟨gb213,0,none⟩ (.int .i64 0)).setCell ⟨gb213,1,none⟩ (.int .i64 0)).setCell ⟨gb213,2,none⟩ (.int .i64 0)) w.heap.size (fun k_=>k_≠gb150) (.slice (some ad177) t137.length co50) t137):=⟨by (with_reducible repeat (first|apply fK|apply gF|apply eQ));exact Kd.R_mono (Kd.R_far (p:=⟨gb213,2,none⟩) (Kd.R_far (p:=⟨gb213,1,none⟩) (Kd.R_far (p:=⟨gb213,0,none⟩) (Kd.R_types HO_14.out BK213.out (by decide)) (fun _ hk=>hk.2) (.int .i64 0)) (fun _ hk=>hk.2) (.int .i64 0)) (fun _ hk=>hk.2) (.int .i64 0)) (fun _ hk=>hk.1)⟩
              replace HO_15:Aside0 (Kd.R gG 72 (((w243.setCell ⟨gb213,0,none⟩ (.int .i64 0)).setCell ⟨gb213,1,none⟩ (.int .i64 0)).setCell ⟨gb213,2,none⟩ (.int .i64 0)) w.heap.size (fun k_=>k_≠gb108∧k_≠gb109∧k_≠gb113∧k_≠gb123∧k_≠gb124∧k_≠gb125∧k_≠gb169∧k_≠gb188∧k_≠gb200∧k_≠gb212∧k_≠gb213) v142 t140):=⟨by (with_reducible repeat (first|apply fK|apply gF|apply eQ));exact Kd.R_mono (Kd.R_far (p:=⟨gb213,2,none⟩) (Kd.R_far (p:=⟨gb213,1,none⟩) (Kd.R_far (p:=⟨gb213,0,none⟩) (Kd.R_mono HO_15.out (fun k_ hk=>(⟨hk,hk.2⟩:_∧k_≠gb213))) (fun _ hk=>hk.2) (.int .i64 0)) (fun _ hk=>hk.2) (.int .i64 0)) (fun _ hk=>hk.2) (.int .i64 0)) (fun _ hk=>⟨hk.1.1.1,⟨hk.1.1.2.1,⟨hk.1.1.2.2.1,⟨hk.1.1.2.2.2.1,⟨hk.1.1.2.2.2.2.1,⟨hk.1.1.2.2.2.2.2.1,⟨hk.1.1.2.2.2.2.2.2.1,⟨hk.1.1.2.2.2.2.2.2.2.1,⟨hk.1.1.2.2.2.2.2.2.2.2.1,⟨hk.1.1.2.2.2.2.2.2.2.2.2,hk.1.2⟩⟩⟩⟩⟩⟩⟩⟩⟩⟩)⟩
              replace BK188:Aside0 ((((w243.setCell ⟨gb213,0,none⟩ (.int .i64 0)).setCell ⟨gb213,1,none⟩ (.int .i64 0)).setCell ⟨gb213,2,none⟩ (.int .i64 0)).heap[gb188]? = some (.cells #[.int .i64 t185,.int .i64 t186,.int .i64 t187] 72 (0,0))):=⟨eW BK188⟩
              replace BK200:Aside0 ((((w243.setCell ⟨gb213,0,none⟩ (.int .i64 0)).setCell ⟨gb213,1,none⟩ (.int .i64 0)).setCell ⟨gb213,2,none⟩ (.int .i64 0)).heap[gb200]? = some (.cells #[.int .i64 t197,.int .i64 t198,.int .i64 t199] 72 (0,0))):=⟨eW BK200⟩
              replace BK213:Aside0 ((((w243.setCell ⟨gb213,0,none⟩ (.int .i64 0)).setCell ⟨gb213,1,none⟩ (.int .i64 0)).setCell ⟨gb213,2,none⟩ (.int .i64 0)).heap[gb213]? = some (.cells #[.int .i64 0,.int .i64 0,.int .i64 0] 72 (0,0))):=⟨eW BK213⟩
              replace HB:Aside0 (Below w.heap.size w (((w243.setCell ⟨gb213,0,none⟩ (.int .i64 0)).setCell ⟨gb213,1,none⟩ (.int .i64 0)).setCell ⟨gb213,2,none⟩ (.int .i64 0))):=⟨bM HB⟩
              generalize (((w243.setCell ⟨gb213,0,none⟩ (.int .i64 0)).setCell ⟨gb213,1,none⟩ (.int .i64 0)).setCell ⟨gb213,2,none⟩ (.int .i64 0))=w258 at HO_14 HO_15 BK188 BK200 BK213 HB ⊢
              replace HO_14:=aD (eQ HO_14.out)
              replace HO_15:=aD (eQ HO_15.out)
              replace BK188:=aD (aK BK188.out)
              replace BK200:=aD (aK BK200.out)
              replace BK213:=aD (aK BK213.out)
              replace HB:=aD (lC HB.out)
              refine eE (n:=19) (S:=fun w'=>w'.cell? ⟨gb188,0,none⟩=some (.int .i64 t185)∧w'.cell? ⟨gb188,1,none⟩=some (.int .i64 t186)∧w'.cell? ⟨gb188,2,none⟩=some (.int .i64 t187)∧w'.cell? ⟨gb200,0,none⟩=some (.int .i64 t197)∧w'.cell? ⟨gb200,1,none⟩=some (.int .i64 t198)∧w'.cell? ⟨gb200,2,none⟩=some (.int .i64 t199)∧w'.cell? ⟨gb213,0,none⟩=some (.int .i64 0)∧w'.cell? ⟨gb213,1,none⟩=some (.int .i64 0)∧w'.cell? ⟨gb213,2,none⟩=some (.int .i64 0)) (ds:=[]) (bm 19 0) (by kernel_rfl) rfl rfl ⟨aT BK188 0,aT BK188 1,aT BK188 2,aT BK200 0,aT BK200 1,aT BK200 2,aT BK213 0,aT BK213 1,aT BK213 2⟩ (fun hHeld=>?_);refine cX gU gO (fun HT_ HW_=>?_)
              generalize w258.drew=w259 at HO_14 HO_15 BK188 BK200 BK213 HB hHeld ⊢
              refine dG ((2,0,227,1)::(2,1,228,3)::(2,3,230,11)::[]) ?_
              iterate 3 (first|refine qB HT_ HW_ hHeld ?_)
              refine bL ?_
              refine cS (i:=2) (N:=some 229) (bm 19 15) rfl rfl (bI HT_.out (by kernel_rfl)) (by decide) (fun K hK=>?_)
              refine bP Try.func82 #[.agg #[.int .i64 t185,.int .i64 t186,.int .i64 t187],.agg #[.int .i64 t197,.int .i64 t198,.int .i64 t199]] ?_
              with_reducible refine (aH kj182 t185 t186 t187 t197 t198 t199 t214 t215 t216 _ A256.out).mono ?_
              rintro e w260 ⟨rfl,hb⟩
              refine ⟨_,rfl,?_⟩
              replace HO_14:=aD (Kd.R_below (bN HO_14) hb)
              replace HO_15:=aD (Kd.R_below (bN HO_15) hb)
              replace BK188:=aD (aU BK188 hb)
              replace BK200:=aD (aU BK200 hb)
              replace BK213:=aD (aU BK213 hb)
              replace HB:=aD (aE (bM HB) hb)
              (try clear hb)
              (try clear hk)
              refine hK.out _ _ ⟨aT BK188 0,aT BK188 1,aT BK188 2,aT BK200 0,aT BK200 1,aT BK200 2,aT BK213 0,aT BK213 1,aT BK213 2⟩ (fun hHeld=>?_)
              clear hK K
              refine cW (some 229) ?_
              refine dG ((0,4,231,31)::(0,5,232,63)::(1,6,233,127)::(1,7,234,255)::(1,8,235,511)::(1,9,236,1023)::(1,10,237,2047)::(0,11,238,4095)::(0,12,239,8191)::(1,13,240,16383)::(1,14,241,32767)::(1,15,242,65535)::(1,16,243,131071)::(1,17,244,262143)::(0,18,245,524287)::[]) ?_
              iterate 15 (first|refine jT HT_ ?_|(refine xY undef ?_ rfl rfl (wB HT_.out (by kernel_rfl)) (fun _ _ _ h=>h) (Or.inr ⟨by rfl,rfl⟩) ?_ ?_;rotate_left 1;(· simp only [Act.put,List.setIfInBounds_toArray,List.set_cons_zero,List.set_cons_succ,aZ,bB];rfl)))
              refine bL ?_
              refine dD (dZ HT_.out (by kernel_rfl)) ?_
              try go_wp2
              go_meet
              case rel=>exact ⟨_,(true),eO,H',⟨by have:=HJ13.out;have:=HJ139.out;have:=HJ182.out;first|omega|exact Nat.le_refl _⟩,⟨bN HO_14⟩,⟨bN HO_15⟩,⟨bM HB⟩⟩
             ·have c257b0:(t214==0&&(t215==0&&(t216==0)))=false:=by simpa using c257
              clear c257
              (first|rw [c257b0]|(simp only [aZ,bB];rw [c257b0])|skip)
              replace H:=fQ H
              obtain ⟨⟨t217,t218,t219⟩,A261,H⟩:=H
              try dsimp only at H
              replace H:=kK H
              rcases H with ⟨c262,H⟩|⟨c262,H⟩
              ·have c262b0:(t217==0&&(t218==0&&(t219==0)))=true:=c262
               clear c262
               have H':=aD H
               clear H
               try go_wp2
               replace HO_14:Aside0 (Kd.R gA 80 (((w243.setCell ⟨gb213,0,none⟩ (.int .i64 0)).setCell ⟨gb213,1,none⟩ (.int .i64 0)).setCell ⟨gb213,2,none⟩ (.int .i64 0)) w.heap.size (fun k_=>k_≠gb150) (.slice (some ad177) t137.length co50) t137):=⟨by (with_reducible repeat (first|apply fK|apply gF|apply eQ));exact Kd.R_mono (Kd.R_far (p:=⟨gb213,2,none⟩) (Kd.R_far (p:=⟨gb213,1,none⟩) (Kd.R_far (p:=⟨gb213,0,none⟩) (Kd.R_types HO_14.out BK213.out (by decide)) (fun _ hk=>hk.2) (.int .i64 0)) (fun _ hk=>hk.2) (.int .i64 0)) (fun _ hk=>hk.2) (.int .i64 0)) (fun _ hk=>hk.1)⟩
               replace HO_15:Aside0 (Kd.R gG 72 (((w243.setCell ⟨gb213,0,none⟩ (.int .i64 0)).setCell ⟨gb213,1,none⟩ (.int .i64 0)).setCell ⟨gb213,2,none⟩ (.int .i64 0)) w.heap.size (fun k_=>k_≠gb108∧k_≠gb109∧k_≠gb113∧k_≠gb123∧k_≠gb124∧k_≠gb125∧k_≠gb169∧k_≠gb188∧k_≠gb200∧k_≠gb212∧k_≠gb213) v142 t140):=⟨by (with_reducible repeat (first|apply fK|apply gF|apply eQ));exact Kd.R_mono (Kd.R_far (p:=⟨gb213,2,none⟩) (Kd.R_far (p:=⟨gb213,1,none⟩) (Kd.R_far (p:=⟨gb213,0,none⟩) (Kd.R_mono HO_15.out (fun k_ hk=>(⟨hk,hk.2⟩:_∧k_≠gb213))) (fun _ hk=>hk.2) (.int .i64 0)) (fun _ hk=>hk.2) (.int .i64 0)) (fun _ hk=>hk.2) (.int .i64 0)) (fun _ hk=>⟨hk.1.1.1,⟨hk.1.1.2.1,⟨hk.1.1.2.2.1,⟨hk.1.1.2.2.2.1,⟨hk.1.1.2.2.2.2.1,⟨hk.1.1.2.2.2.2.2.1,⟨hk.1.1.2.2.2.2.2.2.1,⟨hk.1.1.2.2.2.2.2.2.2.1,⟨hk.1.1.2.2.2.2.2.2.2.2.1,⟨hk.1.1.2.2.2.2.2.2.2.2.2,hk.1.2⟩⟩⟩⟩⟩⟩⟩⟩⟩⟩)⟩
               replace BK188:Aside0 ((((w243.setCell ⟨gb213,0,none⟩ (.int .i64 0)).setCell ⟨gb213,1,none⟩ (.int .i64 0)).setCell ⟨gb213,2,none⟩ (.int .i64 0)).heap[gb188]? = some (.cells #[.int .i64 t185,.int .i64 t186,.int .i64 t187] 72 (0,0))):=⟨eW BK188⟩
               replace BK200:Aside0 ((((w243.setCell ⟨gb213,0,none⟩ (.int .i64 0)).setCell ⟨gb213,1,none⟩ (.int .i64 0)).setCell ⟨gb213,2,none⟩ (.int .i64 0)).heap[gb200]? = some (.cells #[.int .i64 t197,.int .i64 t198,.int .i64 t199] 72 (0,0))):=⟨eW BK200⟩
               replace BK212:Aside0 ((((w243.setCell ⟨gb213,0,none⟩ (.int .i64 0)).setCell ⟨gb213,1,none⟩ (.int .i64 0)).setCell ⟨gb213,2,none⟩ (.int .i64 0)).heap[gb212]? = some (.cells #[.int .i64 t209,.int .i64 t210,.int .i64 t211] 72 (0,0))):=⟨eW BK212⟩
               replace BK213:Aside0 ((((w243.setCell ⟨gb213,0,none⟩ (.int .i64 0)).setCell ⟨gb213,1,none⟩ (.int .i64 0)).setCell ⟨gb213,2,none⟩ (.int .i64 0)).heap[gb213]? = some (.cells #[.int .i64 0,.int .i64 0,.int .i64 0] 72 (0,0))):=⟨eW BK213⟩
               replace HB:Aside0 (Below w.heap.size w (((w243.setCell ⟨gb213,0,none⟩ (.int .i64 0)).setCell ⟨gb213,1,none⟩ (.int .i64 0)).setCell ⟨gb213,2,none⟩ (.int .i64 0))):=⟨bM HB⟩
               generalize (((w243.setCell ⟨gb213,0,none⟩ (.int .i64 0)).setCell ⟨gb213,1,none⟩ (.int .i64 0)).setCell ⟨gb213,2,none⟩ (.int .i64 0))=w263 at HO_14 HO_15 BK188 BK200 BK212 BK213 HB ⊢
               replace HO_14:=aD (eQ HO_14.out)
               replace HO_15:=aD (eQ HO_15.out)
               replace BK188:=aD (aK BK188.out)
               replace BK200:=aD (aK BK200.out)
               replace BK212:=aD (aK BK212.out)
               replace BK213:=aD (aK BK213.out)
               replace HB:=aD (lC HB.out)
               refine eE (n:=19) (S:=fun w'=>w'.cell? ⟨gb188,0,none⟩=some (.int .i64 t185)∧w'.cell? ⟨gb188,1,none⟩=some (.int .i64 t186)∧w'.cell? ⟨gb188,2,none⟩=some (.int .i64 t187)∧w'.cell? ⟨gb200,0,none⟩=some (.int .i64 t197)∧w'.cell? ⟨gb200,1,none⟩=some (.int .i64 t198)∧w'.cell? ⟨gb200,2,none⟩=some (.int .i64 t199)∧w'.cell? ⟨gb213,0,none⟩=some (.int .i64 0)∧w'.cell? ⟨gb213,1,none⟩=some (.int .i64 0)∧w'.cell? ⟨gb213,2,none⟩=some (.int .i64 0)∧w'.cell? ⟨gb212,0,none⟩=some (.int .i64 t209)∧w'.cell? ⟨gb212,1,none⟩=some (.int .i64 t210)∧w'.cell? ⟨gb212,2,none⟩=some (.int .i64 t211)) (ds:=[]) (bm 19 0) (by kernel_rfl) rfl rfl ⟨aT BK188 0,aT BK188 1,aT BK188 2,aT BK200 0,aT BK200 1,aT BK200 2,aT BK213 0,aT BK213 1,aT BK213 2,aT BK212 0,aT BK212 1,aT BK212 2⟩ (fun hHeld=>?_);refine cX gU gO (fun HT_ HW_=>?_)
               generalize w263.drew=w264 at HO_14 HO_15 BK188 BK200 BK212 BK213 HB hHeld ⊢
               refine dG ((2,0,227,1)::(2,1,228,3)::(2,3,230,11)::[]) ?_
               iterate 3 (first|refine qB HT_ HW_ hHeld ?_)
               refine bL ?_
               refine cS (i:=2) (N:=some 229) (bm 19 15) rfl rfl (bI HT_.out (by kernel_rfl)) (by decide) (fun K hK=>?_)
               refine bP Try.func82 #[.agg #[.int .i64 t185,.int .i64 t186,.int .i64 t187],.agg #[.int .i64 t197,.int .i64 t198,.int .i64 t199]] ?_
               with_reducible refine (aH kj182 t185 t186 t187 t197 t198 t199 t214 t215 t216 _ A256.out).mono ?_
               rintro e w265 ⟨rfl,hb⟩
               refine ⟨_,rfl,?_⟩
               replace HO_14:=aD (Kd.R_below (bN HO_14) hb)
               replace HO_15:=aD (Kd.R_below (bN HO_15) hb)
               replace BK188:=aD (aU BK188 hb)
               replace BK200:=aD (aU BK200 hb)
               replace BK212:=aD (aU BK212 hb)
               replace BK213:=aD (aU BK213 hb)
               replace HB:=aD (aE (bM HB) hb)
               (try clear hb)
               (try clear hk)
               refine hK.out _ _ ⟨aT BK188 0,aT BK188 1,aT BK188 2,aT BK200 0,aT BK200 1,aT BK200 2,aT BK213 0,aT BK213 1,aT BK213 2,aT BK212 0,aT BK212 1,aT BK212 2⟩ (fun hHeld=>?_)
               clear hK K
               refine cW (some 229) ?_
               refine dG ((0,4,231,31)::(0,5,232,63)::(2,6,233,127)::(2,7,234,255)::(2,9,236,767)::[]) ?_
               iterate 5 (first|refine jT HT_ ?_|refine qB HT_ HW_ hHeld ?_)
               refine bL ?_
               refine cS (i:=8) (N:=some 235) (bm 19 1023) rfl rfl (bI HT_.out (by kernel_rfl)) (by decide) (fun K hK=>?_)
               refine bP Try.func82 #[.agg #[.int .i64 t185,.int .i64 t186,.int .i64 t187],.agg #[.int .i64 t209,.int .i64 t210,.int .i64 t211]] ?_
               with_reducible refine (aH kj182 t185 t186 t187 t209 t210 t211 t217 t218 t219 _ A261.out).mono ?_
               rintro e w266 ⟨rfl,hb⟩
               refine ⟨_,rfl,?_⟩
               replace HO_14:=aD (Kd.R_below (bN HO_14) hb)
               replace HO_15:=aD (Kd.R_below (bN HO_15) hb)
               replace BK188:=aD (aU BK188 hb)
               replace BK200:=aD (aU BK200 hb)
               replace BK212:=aD (aU BK212 hb)
               replace BK213:=aD (aU BK213 hb)
               replace HB:=aD (aE (bM HB) hb)
               (try clear hb)
               (try clear hk)
               refine hK.out _ _ ⟨aT BK188 0,aT BK188 1,aT BK188 2,aT BK200 0,aT BK200 1,aT BK200 2,aT BK213 0,aT BK213 1,aT BK213 2,aT BK212 0,aT BK212 1,aT BK212 2⟩ (fun hHeld=>?_)
               clear hK K
               refine cW (some 235) ?_
               refine dG ((0,10,237,2047)::(0,11,238,4095)::(0,12,239,8191)::(1,13,240,16383)::(1,14,241,32767)::(1,15,242,65535)::(1,16,243,131071)::(1,17,244,262143)::(0,18,245,524287)::[]) ?_
               iterate 9 (first|refine jT HT_ ?_|(refine xY undef ?_ rfl rfl (wB HT_.out (by kernel_rfl)) (fun _ _ _ h=>h) (Or.inr ⟨by rfl,rfl⟩) ?_ ?_;rotate_left 1;(· simp only [Act.put,List.setIfInBounds_toArray,List.set_cons_zero,List.set_cons_succ,aZ,bB];rfl)))
               refine bL ?_
               refine dD (dZ HT_.out (by kernel_rfl)) ?_
               try go_wp2
               go_meet
               case rel=>exact ⟨_,(true),eO,H',⟨by have:=HJ13.out;have:=HJ139.out;have:=HJ182.out;first|omega|exact Nat.le_refl _⟩,⟨bN HO_14⟩,⟨bN HO_15⟩,⟨bM HB⟩⟩
              ·have c262b0:(t217==0&&(t218==0&&(t219==0)))=false:=by simpa using c262
               clear c262
               replace H:=fQ H
               obtain ⟨⟨t220,t221,t222⟩,A267,H⟩:=H
               try dsimp only at H
               have H':=aD H
               clear H
               try go_wp2
               replace HO_14:Aside0 (Kd.R gA 80 (((w243.setCell ⟨gb213,0,none⟩ (.int .i64 0)).setCell ⟨gb213,1,none⟩ (.int .i64 0)).setCell ⟨gb213,2,none⟩ (.int .i64 0)) w.heap.size (fun k_=>k_≠gb150) (.slice (some ad177) t137.length co50) t137):=⟨by (with_reducible repeat (first|apply fK|apply gF|apply eQ));exact Kd.R_mono (Kd.R_far (p:=⟨gb213,2,none⟩) (Kd.R_far (p:=⟨gb213,1,none⟩) (Kd.R_far (p:=⟨gb213,0,none⟩) (Kd.R_types HO_14.out BK213.out (by decide)) (fun _ hk=>hk.2) (.int .i64 0)) (fun _ hk=>hk.2) (.int .i64 0)) (fun _ hk=>hk.2) (.int .i64 0)) (fun _ hk=>hk.1)⟩
               replace HO_15:Aside0 (Kd.R gG 72 (((w243.setCell ⟨gb213,0,none⟩ (.int .i64 0)).setCell ⟨gb213,1,none⟩ (.int .i64 0)).setCell ⟨gb213,2,none⟩ (.int .i64 0)) w.heap.size (fun k_=>k_≠gb108∧k_≠gb109∧k_≠gb113∧k_≠gb123∧k_≠gb124∧k_≠gb125∧k_≠gb169∧k_≠gb188∧k_≠gb200∧k_≠gb212∧k_≠gb213) v142 t140):=⟨by (with_reducible repeat (first|apply fK|apply gF|apply eQ));exact Kd.R_mono (Kd.R_far (p:=⟨gb213,2,none⟩) (Kd.R_far (p:=⟨gb213,1,none⟩) (Kd.R_far (p:=⟨gb213,0,none⟩) (Kd.R_mono HO_15.out (fun k_ hk=>(⟨hk,hk.2⟩:_∧k_≠gb213))) (fun _ hk=>hk.2) (.int .i64 0)) (fun _ hk=>hk.2) (.int .i64 0)) (fun _ hk=>hk.2) (.int .i64 0)) (fun _ hk=>⟨hk.1.1.1,⟨hk.1.1.2.1,⟨hk.1.1.2.2.1,⟨hk.1.1.2.2.2.1,⟨hk.1.1.2.2.2.2.1,⟨hk.1.1.2.2.2.2.2.1,⟨hk.1.1.2.2.2.2.2.2.1,⟨hk.1.1.2.2.2.2.2.2.2.1,⟨hk.1.1.2.2.2.2.2.2.2.2.1,⟨hk.1.1.2.2.2.2.2.2.2.2.2,hk.1.2⟩⟩⟩⟩⟩⟩⟩⟩⟩⟩)⟩
               replace BK188:Aside0 ((((w243.setCell ⟨gb213,0,none⟩ (.int .i64 0)).setCell ⟨gb213,1,none⟩ (.int .i64 0)).setCell ⟨gb213,2,none⟩ (.int .i64 0)).heap[gb188]? = some (.cells #[.int .i64 t185,.int .i64 t186,.int .i64 t187] 72 (0,0))):=⟨eW BK188⟩
               replace BK200:Aside0 ((((w243.setCell ⟨gb213,0,none⟩ (.int .i64 0)).setCell ⟨gb213,1,none⟩ (.int .i64 0)).setCell ⟨gb213,2,none⟩ (.int .i64 0)).heap[gb200]? = some (.cells #[.int .i64 t197,.int .i64 t198,.int .i64 t199] 72 (0,0))):=⟨eW BK200⟩
               replace BK212:Aside0 ((((w243.setCell ⟨gb213,0,none⟩ (.int .i64 0)).setCell ⟨gb213,1,none⟩ (.int .i64 0)).setCell ⟨gb213,2,none⟩ (.int .i64 0)).heap[gb212]? = some (.cells #[.int .i64 t209,.int .i64 t210,.int .i64 t211] 72 (0,0))):=⟨eW BK212⟩
               replace BK213:Aside0 ((((w243.setCell ⟨gb213,0,none⟩ (.int .i64 0)).setCell ⟨gb213,1,none⟩ (.int .i64 0)).setCell ⟨gb213,2,none⟩ (.int .i64 0)).heap[gb213]? = some (.cells #[.int .i64 0,.int .i64 0,.int .i64 0] 72 (0,0))):=⟨eW BK213⟩
               replace HB:Aside0 (Below w.heap.size w (((w243.setCell ⟨gb213,0,none⟩ (.int .i64 0)).setCell ⟨gb213,1,none⟩ (.int .i64 0)).setCell ⟨gb213,2,none⟩ (.int .i64 0))):=⟨bM HB⟩
               generalize (((w243.setCell ⟨gb213,0,none⟩ (.int .i64 0)).setCell ⟨gb213,1,none⟩ (.int .i64 0)).setCell ⟨gb213,2,none⟩ (.int .i64 0))=w268 at HO_14 HO_15 BK188 BK200 BK212 BK213 HB ⊢
               replace HO_14:=aD (eQ HO_14.out)
               replace HO_15:=aD (eQ HO_15.out)
               replace BK188:=aD (aK BK188.out)
               replace BK200:=aD (aK BK200.out)
               replace BK212:=aD (aK BK212.out)
               replace BK213:=aD (aK BK213.out)
               replace HB:=aD (lC HB.out)
               refine eE (n:=19) (S:=fun w'=>w'.cell? ⟨gb188,0,none⟩=some (.int .i64 t185)∧w'.cell? ⟨gb188,1,none⟩=some (.int .i64 t186)∧w'.cell? ⟨gb188,2,none⟩=some (.int .i64 t187)∧w'.cell? ⟨gb200,0,none⟩=some (.int .i64 t197)∧w'.cell? ⟨gb200,1,none⟩=some (.int .i64 t198)∧w'.cell? ⟨gb200,2,none⟩=some (.int .i64 t199)∧w'.cell? ⟨gb213,0,none⟩=some (.int .i64 0)∧w'.cell? ⟨gb213,1,none⟩=some (.int .i64 0)∧w'.cell? ⟨gb213,2,none⟩=some (.int .i64 0)∧w'.cell? ⟨gb212,0,none⟩=some (.int .i64 t209)∧w'.cell? ⟨gb212,1,none⟩=some (.int .i64 t210)∧w'.cell? ⟨gb212,2,none⟩=some (.int .i64 t211)) (ds:=[]) (bm 19 0) (by kernel_rfl) rfl rfl ⟨aT BK188 0,aT BK188 1,aT BK188 2,aT BK200 0,aT BK200 1,aT BK200 2,aT BK213 0,aT BK213 1,aT BK213 2,aT BK212 0,aT BK212 1,aT BK212 2⟩ (fun hHeld=>?_);refine cX gU gO (fun HT_ HW_=>?_)
               generalize w268.drew=w269 at HO_14 HO_15 BK188 BK200 BK212 BK213 HB hHeld ⊢
               refine dG ((2,0,227,1)::(2,1,228,3)::(2,3,230,11)::[]) ?_
               iterate 3 (first|refine qB HT_ HW_ hHeld ?_)
               refine bL ?_
               refine cS (i:=2) (N:=some 229) (bm 19 15) rfl rfl (bI HT_.out (by kernel_rfl)) (by decide) (fun K hK=>?_)
               refine bP Try.func82 #[.agg #[.int .i64 t185,.int .i64 t186,.int .i64 t187],.agg #[.int .i64 t197,.int .i64 t198,.int .i64 t199]] ?_
               with_reducible refine (aH kj182 t185 t186 t187 t197 t198 t199 t214 t215 t216 _ A256.out).mono ?_
               rintro e w270 ⟨rfl,hb⟩
               refine ⟨_,rfl,?_⟩
               replace HO_14:=aD (Kd.R_below (bN HO_14) hb)
               replace HO_15:=aD (Kd.R_below (bN HO_15) hb)
               replace BK188:=aD (aU BK188 hb)
               replace BK200:=aD (aU BK200 hb)
               replace BK212:=aD (aU BK212 hb)
               replace BK213:=aD (aU BK213 hb)
               replace HB:=aD (aE (bM HB) hb)
               (try clear hb)
               (try clear hk)
               refine hK.out _ _ ⟨aT BK188 0,aT BK188 1,aT BK188 2,aT BK200 0,aT BK200 1,aT BK200 2,aT BK213 0,aT BK213 1,aT BK213 2,aT BK212 0,aT BK212 1,aT BK212 2⟩ (fun hHeld=>?_)
               clear hK K
               refine cW (some 229) ?_
               refine dG ((0,4,231,31)::(0,5,232,63)::(2,6,233,127)::(2,7,234,255)::(2,9,236,767)::[]) ?_
               iterate 5 (first|refine jT HT_ ?_|refine qB HT_ HW_ hHeld ?_)
               refine bL ?_
               refine cS (i:=8) (N:=some 235) (bm 19 1023) rfl rfl (bI HT_.out (by kernel_rfl)) (by decide) (fun K hK=>?_)
               refine bP Try.func82 #[.agg #[.int .i64 t185,.int .i64 t186,.int .i64 t187],.agg #[.int .i64 t209,.int .i64 t210,.int .i64 t211]] ?_
               with_reducible refine (aH kj182 t185 t186 t187 t209 t210 t211 t217 t218 t219 _ A261.out).mono ?_
               rintro e w271 ⟨rfl,hb⟩
               refine ⟨_,rfl,?_⟩
               replace HO_14:=aD (Kd.R_below (bN HO_14) hb)
               replace HO_15:=aD (Kd.R_below (bN HO_15) hb)
               replace BK188:=aD (aU BK188 hb)
               replace BK200:=aD (aU BK200 hb)
               replace BK212:=aD (aU BK212 hb)
               replace BK213:=aD (aU BK213 hb)
               replace HB:=aD (aE (bM HB) hb)
               (try clear hb)
               (try clear hk)
               refine hK.out _ _ ⟨aT BK188 0,aT BK188 1,aT BK188 2,aT BK200 0,aT BK200 1,aT BK200 2,aT BK213 0,aT BK213 1,aT BK213 2,aT BK212 0,aT BK212 1,aT BK212 2⟩ (fun hHeld=>?_)
               clear hK K
               refine cW (some 235) ?_
               refine dG ((0,10,237,2047)::(0,11,238,4095)::(0,12,239,8191)::(2,13,240,16383)::(2,14,241,32767)::(2,16,243,98303)::[]) ?_
               iterate 6 (first|refine jT HT_ ?_|refine qB HT_ HW_ hHeld ?_)
               refine bL ?_
               refine cS (i:=15) (N:=some 242) (bm 19 131071) rfl rfl (bI HT_.out (by kernel_rfl)) (by decide) (fun K hK=>?_)
               refine bP Try.func82 #[.agg #[.int .i64 t197,.int .i64 t198,.int .i64 t199],.agg #[.int .i64 t209,.int .i64 t210,.int .i64 t211]] ?_
               with_reducible refine (aH kj182 t197 t198 t199 t209 t210 t211 t220 t221 t222 _ A267.out).mono ?_
               rintro e w272 ⟨rfl,hb⟩
               refine ⟨_,rfl,?_⟩
               replace HO_14:=aD (Kd.R_below (bN HO_14) hb)
               replace HO_15:=aD (Kd.R_below (bN HO_15) hb)
               replace BK188:=aD (aU BK188 hb)
               replace BK200:=aD (aU BK200 hb)
               replace BK212:=aD (aU BK212 hb)
               replace BK213:=aD (aU BK213 hb)
               replace HB:=aD (aE (bM HB) hb)
               (try clear hb)
               (try clear hk)
               refine hK.out _ _ ⟨aT BK188 0,aT BK188 1,aT BK188 2,aT BK200 0,aT BK200 1,aT BK200 2,aT BK213 0,aT BK213 1,aT BK213 2,aT BK212 0,aT BK212 1,aT BK212 2⟩ (fun hHeld=>?_)
               clear hK K
               refine cW (some 242) ?_
               refine dG ((0,17,244,262143)::(0,18,245,524287)::[]) ?_
               iterate 2 (first|refine jT HT_ ?_)
               refine bL ?_
               refine dD (dZ HT_.out (by kernel_rfl)) ?_
               try go_wp2
               go_meet
               case rel=>exact ⟨_,((t220==0&&(t221==0&&(t222==0)))),eO,H',⟨by have:=HJ13.out;have:=HJ139.out;have:=HJ182.out;first|omega|exact Nat.le_refl _⟩,⟨bN HO_14⟩,⟨bN HO_15⟩,⟨bM HB⟩⟩
            case rest=>as_aux_lemma =>
             clear HC213
             try clear c82
             try clear c262
             try clear c262b0
             obtain ⟨kq,x245_212,rfl,HA,HJ212,HO_14,HO_15,HB⟩:=hcut
             cases kq with
             | zero=>exact absurd HA.out (by simp [dS])
             | succ kj212 =>
              have H:=HA.out
              clear HA
              simp only [dS] at H
              by_cases c273:x245_212=true
              ·subst c273
               rw [if_pos rfl] at H
               replace H:=fQ H
               obtain ⟨t223,A274,H⟩:=H
               have hz_:(!t223)=true:=Option.some.inj H
               clear H
               go_wp2_with (first|((with_reducible refine aV (f:=66) rfl ?_);refine bK (some 247) Try.func66 #[.slice (some ad177) t137.length co50] ?_;(with_reducible refine (fE kj212 _ _ t137 t223 _ ?side1 ?side2 A274.out).mono ?_);(case side1=>exact nK (Kd.R_reads' HO_14.out).2.2);(case side2=>exact (Kd.R_reads' HO_14.out).2.1);rintro e w275 ⟨rfl,hb⟩;refine ⟨_,rfl,?_⟩;replace HB:=aD (aE (bM HB) hb);(try clear hb);(try clear hk)))
               go_ret
               exact ⟨dA,bM HB⟩
              ·replace c273:=Bool.eq_false_iff.mpr c273
               subst c273
               rw [if_neg (show ¬ (false=true) by decide)] at H
               obtain ⟨c276,H⟩:=iC H
               have c276b0:=decide_eq_true c276
               have c276b1:decide (0<t140.length)=true:=decide_eq_true (by omega)
               clear c276
               obtain ⟨c277,H⟩:=iC H
               have c277b0:=decide_eq_true c277
               have c277b1:decide (1<t140.length)=true:=decide_eq_true (by omega)
               clear c277
               obtain ⟨c278,H⟩:=iC H
               have c278b0:=decide_eq_true c278
               have c278b1:decide (2<t140.length)=true:=decide_eq_true (by omega)
               clear c278
               replace H:=fQ H
               obtain ⟨t227,A279,H⟩:=H
               replace H:=fQ H
               obtain ⟨t228,A280,H⟩:=H
               have hz_:(t227==t228)=true:=Option.some.inj H
               clear H
               try go_wp2
               replace HO_14:=aD (eQ HO_14.out)
               replace HO_15:=aD (eQ HO_15.out)
               replace HB:=aD (lC HB.out)
               obtain ⟨Ao282,co282,eo282⟩:=Kd.R_slice HO_15.out
               (first|subst eo282|(injection eo282 with f1_ f2_ f3_;have f4_:=f1_.symm;have f5_:=f3_.symm;clear f1_ f2_ f3_;subst f4_;subst f5_))
               have p224:0≤(0:Int):=(by omega)
               have q224:0<(t140.length:Int):=dX
               obtain ⟨ad224,e224,hx224_0,hx224_1,hx224_2⟩:=dJ (Kd.R_reads' HO_15.out).2.2 0 p224 q224
               cases e224
               have qi224:(0<t140.length)=True:=eq_true (by omega)
               (try rw [show ((0:Int)).toNat=0 from rfl] at hx224_0)
               (try rw [show 0*3=0 from rfl] at hx224_0)
               (try rw [Addr.add_zero'] at hx224_0)
               (try rw [show ((0:Int)).toNat=0 from rfl] at hx224_1)
               (try rw [show 0*3=0 from rfl] at hx224_1)
               (try rw [Addr.add_zero'] at hx224_1)
               (try rw [show ((0:Int)).toNat=0 from rfl] at hx224_2)
               (try rw [show 0*3=0 from rfl] at hx224_2)
               (try rw [Addr.add_zero'] at hx224_2)
               replace p224:=eq_true p224
               replace q224:=eq_true q224
               have p225:0≤(1:Int):=(by omega)
               have q225:1<(t140.length:Int):=dX
               obtain ⟨ad225,e225,hx225_0,hx225_1,hx225_2⟩:=dJ (Kd.R_reads' HO_15.out).2.2 1 p225 q225
               obtain rfl:ad224=ad225:=(by injection e225)
               (try simp only [show (1:Int).toNat=1 from rfl,Nat.reduceMul,Nat.reduceEqDiff,Go.Addr.add,↓reduceIte] at hx225_0)
               (try simp only [show (1:Int).toNat=1 from rfl,Nat.reduceMul,Nat.reduceEqDiff,Go.Addr.add,↓reduceIte] at hx225_1)
               (try simp only [show (1:Int).toNat=1 from rfl,Nat.reduceMul,Nat.reduceEqDiff,Go.Addr.add,↓reduceIte] at hx225_2)
               have qi225:(1<t140.length)=True:=eq_true (by omega)
               (try rw [show ((1:Int)).toNat=1 from rfl] at hx225_0)
               (try rw [show 1*3=3 from rfl] at hx225_0)
               (try rw [show ((1:Int)).toNat=1 from rfl] at hx225_1)
               (try rw [show 1*3=3 from rfl] at hx225_1)
               (try rw [show ((1:Int)).toNat=1 from rfl] at hx225_2)
               (try rw [show 1*3=3 from rfl] at hx225_2)
               replace p225:=eq_true p225
               replace q225:=eq_true q225
               have p226:0≤(2:Int):=(by omega)
               have q226:2<(t140.length:Int):=dX
               obtain ⟨ad226,e226,hx226_0,hx226_1,hx226_2⟩:=dJ (Kd.R_reads' HO_15.out).2.2 2 p226 q226
               obtain rfl:ad224=ad226:=(by injection e226)
               (try simp only [show (2:Int).toNat=2 from rfl,Nat.reduceMul,Nat.reduceEqDiff,Go.Addr.add,↓reduceIte] at hx226_0)
               (try simp only [show (2:Int).toNat=2 from rfl,Nat.reduceMul,Nat.reduceEqDiff,Go.Addr.add,↓reduceIte] at hx226_1)
               (try simp only [show (2:Int).toNat=2 from rfl,Nat.reduceMul,Nat.reduceEqDiff,Go.Addr.add,↓reduceIte] at hx226_2)
               have qi226:(2<t140.length)=True:=eq_true (by omega)
               (try rw [show ((2:Int)).toNat=2 from rfl] at hx226_0)
               (try rw [show 2*3=6 from rfl] at hx226_0)
               (try rw [show ((2:Int)).toNat=2 from rfl] at hx226_1)
               (try rw [show 2*3=6 from rfl] at hx226_1)
               (try rw [show ((2:Int)).toNat=2 from rfl] at hx226_2)
               (try rw [show 2*3=6 from rfl] at hx226_2)
               replace p226:=eq_true p226
               replace q226:=eq_true q226
               refine eE (n:=14) (S:=fun w'=>w'.cell? ad224=some (.int .i64 ((aI t140 0).f0))∧w'.cell? ⟨ad224.block,ad224.off+1,none⟩=some (.int .i64 ((aI t140 0).f1))∧w'.cell? ⟨ad224.block,ad224.off+2,none⟩=some (.int .i64 ((aI t140 0).f2))∧w'.cell? ⟨ad224.block,ad224.off+3,none⟩=some (.int .i64 ((aI t140 1).f0))∧w'.cell? ⟨ad224.block,ad224.off+3+1,none⟩=some (.int .i64 ((aI t140 1).f1))∧w'.cell? ⟨ad224.block,ad224.off+3+2,none⟩=some (.int .i64 ((aI t140 1).f2))∧w'.cell? ⟨ad224.block,ad224.off+6,none⟩=some (.int .i64 ((aI t140 2).f0))∧w'.cell? ⟨ad224.block,ad224.off+6+1,none⟩=some (.int .i64 ((aI t140 2).f1))∧w'.cell? ⟨ad224.block,ad224.off+6+2,none⟩=some (.int .i64 ((aI t140 2).f2))) (ds:=[]) (bm 14 0) (by kernel_rfl) rfl rfl ⟨hx224_0,hx224_1,hx224_2,hx225_0,hx225_1,hx225_2,hx226_0,hx226_1,hx226_2⟩ (fun hHeld=>?_);refine cX mZ lH (fun HT_ HW_=>?_)
               generalize wc.drew=w281 at HO_14 HB hx224_0 hx224_1 hx224_2 hx225_0 hx225_1 hx225_2 hx226_0 hx226_1 hx226_2 hHeld ⊢
               refine dG ((0,0,249,1)::(0,1,250,3)::(0,3,252,11)::(0,4,253,27)::(0,6,255,91)::(0,7,256,219)::(0,10,259,1243)::(2,2,251,1247)::(2,5,254,1279)::(2,8,257,1535)::[]) ?_
               iterate 10 (first|refine jT HT_ ?_|refine qB HT_ HW_ hHeld ?_)
               refine bL ?_
               refine cS (i:=9) (N:=some 258) (bm 14 2047) rfl rfl (bI HT_.out (by kernel_rfl)) (by decide) (fun K hK=>?_)
               refine bP Try.func83 #[.agg #[.int .i64 ((aI t140 0).f0),.int .i64 ((aI t140 0).f1),.int .i64 ((aI t140 0).f2)],.agg #[.int .i64 ((aI t140 1).f0),.int .i64 ((aI t140 1).f1),.int .i64 ((aI t140 1).f2)],.agg #[.int .i64 ((aI t140 2).f0),.int .i64 ((aI t140 2).f1),.int .i64 ((aI t140 2).f2)]] ?_
               with_reducible refine (fC ((aI t140 0).f0) ((aI t140 0).f1) ((aI t140 0).f2) ((aI t140 1).f0) ((aI t140 1).f1) ((aI t140 1).f2) ((aI t140 2).f0) ((aI t140 2).f1) ((aI t140 2).f2) t227 _ A279.out).mono ?_
               rintro e w283 ⟨rfl,hb⟩
               have HS0_:=cP hb hHeld.1
               have HS1_:=cP hb hHeld.2.1
               have HS2_:=cP hb hHeld.2.2.1
               have HS3_:=cP hb hHeld.2.2.2.1
               have HS4_:=cP hb hHeld.2.2.2.2.1
               have HS5_:=cP hb hHeld.2.2.2.2.2.1
               have HS6_:=cP hb hHeld.2.2.2.2.2.2.1
               have HS7_:=cP hb hHeld.2.2.2.2.2.2.2.1
               have HS8_:=cP hb hHeld.2.2.2.2.2.2.2.2
               refine ⟨_,rfl,?_⟩
               replace HO_14:=aD (Kd.R_below (bN HO_14) hb)
               replace HB:=aD (aE (bM HB) hb)
               (try clear hb)
               (try clear hk)
               refine hK.out _ _ ⟨HS0_,HS1_,HS2_,HS3_,HS4_,HS5_,HS6_,HS7_,HS8_⟩ (fun hHeld=>?_)
               clear hK K
               refine cW (some 258) ?_
               refine cS (i:=11) (N:=some 260) (bm 14 4095) rfl rfl (bI HT_.out (by kernel_rfl)) (by decide) (fun K hK=>?_)
               refine bP Try.func66 #[.slice (some ad177) t137.length co50] ?_
               with_reducible refine (fE kj212 _ _ t137 t228 _ ?side1 ?side2 A280.out).mono ?_
               (case side1=>exact nK (Kd.R_reads' HO_14.out).2.2)
               (case side2=>exact (Kd.R_reads' HO_14.out).2.1)
               rintro e w284 ⟨rfl,hb⟩
               have HS0_:=cP hb hHeld.1
               have HS1_:=cP hb hHeld.2.1
               have HS2_:=cP hb hHeld.2.2.1
               have HS3_:=cP hb hHeld.2.2.2.1
               have HS4_:=cP hb hHeld.2.2.2.2.1
               have HS5_:=cP hb hHeld.2.2.2.2.2.1
               have HS6_:=cP hb hHeld.2.2.2.2.2.2.1
               have HS7_:=cP hb hHeld.2.2.2.2.2.2.2.1
               have HS8_:=cP hb hHeld.2.2.2.2.2.2.2.2
               refine ⟨_,rfl,?_⟩
               replace HB:=aD (aE (bM HB) hb)
               (try clear hb)
               (try clear hk)
               refine hK.out _ _ ⟨HS0_,HS1_,HS2_,HS3_,HS4_,HS5_,HS6_,HS7_,HS8_⟩ (fun hHeld=>?_)
               clear hK K
               refine cW (some 260) ?_
               refine dG ((0,12,261,8191)::(0,13,2,16383)::[]) ?_
               iterate 2 (first|refine jT HT_ ?_)
               refine bL ?_
               refine dD (dZ HT_.out (by kernel_rfl)) ?_
               try go_wp2
               go_ret
               exact ⟨dA,bM HB⟩
           ·replace c197:=Bool.eq_false_iff.mpr c197
            subst c197
            rw [if_neg (show ¬ (false=true) by decide)] at H
            replace H:=fQ H
            obtain ⟨t176,A285,H⟩:=H
            have hz_:(!t176)=true:=Option.some.inj H
            clear H
            go_wp2_with (first|((with_reducible refine aV (f:=66) rfl ?_);refine bK (some 197) Try.func66 #[.slice Ao50 t137.length co50] ?_;(with_reducible refine (fE kj182 _ _ t137 t176 _ ?side1 ?side2 A285.out).mono ?_);(case side1=>exact nK (Kd.R_reads' HO_14.out).2.2);(case side2=>exact (Kd.R_reads' HO_14.out).2.1);rintro e w286 ⟨rfl,hb⟩;refine ⟨_,rfl,?_⟩;replace HB:=aD (aE (bM HB) hb);(try clear hb);(try clear hk)))
            go_ret
            exact ⟨dA,bM HB⟩
def laws_FnIncidences.Pure:Prop:=∀ (x0:List Int),(x0.length≤maxLen∧∀ y0 ∈ x0,(Lit.int .u8 y0).wf=true)→∃ k,laws_FnIncidences.f k x0=some true
end Go.Proofs.Ytldcckcljjlglaa.P

