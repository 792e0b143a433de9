/- Functions with the answers of the program's, written by a program of ours. -/
import Derived.Test.YtdmclbbhhcpjfaaQvG
set_option linter.all false
set_option maxHeartbeats 4000000
set_option linter.unusedVariables false
set_option maxRecDepth 100000
namespace Go.Ev
structure Aa where
  at_:Int
  data:List UInt8
  deriving Inhabited,DecidableEq
def Uo (x:Aa):Prop:=BZ x.at_∧(FI Xk) x.data
def Aj (x:Aa):List V:=[.int .i64 x.at_,.lst 1 (x.data.map Hm)]
structure Af where
  held:List UInt8
  Ab:List Aa
  deriving Inhabited,DecidableEq
def Pl (x:Af):Prop:=(FI Xk) x.held∧(FI Uo) x.Ab
def Ae (x:Af):List V:=[.lst 1 (x.held.map Hm),.lst 2 (x.Ab.map Aj)]
noncomputable def cF (a0:List Aa):Option Bool:=
some (decide ((a0.length:Int)≤4096))
noncomputable def aJ (a0:List Aa) (is1:Aa→Option Bool) (s:Int):Option ((Int)⊕(Unit⊕Int)):=
match s with
| p7=>
if (decide (p7<(a0.length:Int)))=true then
(Hh a0 p7).bind fun y16=>
(is1 y16).bind fun r18=>
if r18=true then
some (.inr (.inr p7))
else
some (.inl (IntKind.i64.wrap (p7+1)))
else
some (.inr (.inl ()))
noncomputable def BU (a0:List Aa) (is1:Aa→Option Bool):Option Int:=
(Cb (aJ a0 is1) 0).bind fun r21=>
(match r21 with
| .inl ()=>
some (-1)
| .inr q=>some q)
noncomputable def xB (a0:List Aa) (is1:Aa→Option Bool):Option Bool:=
(BU a0 is1).bind fun r1=>
some (decide (r1≥0))
noncomputable def xD (a0:Aa) (is1:Aa→Option Bool):Option Bool:=
(is1 a0).bind fun r1=>
some (!r1)
noncomputable def wF (a0:List Aa) (is1:Aa→Option Bool):Option Bool:=
(xB a0 (fun z330_0=>xD z330_0 is1)).bind fun r1=>
some (!r1)
noncomputable def FB (a0:Int) (a1:Int) (a2:Int):Option Bool:=
some (bif (decide (a1≤a0)) then (decide (a0≤a2)) else false)
noncomputable def cG (a0:Aa):Option Bool:=
(FB a0.at_ 0 127).bind fun r1=>
some (bif r1 then ((a0.data.length:Int)==32) else false)
noncomputable def vZ (a0:Af):Option Bool:=
(if ((bif ((((a0.held.length:Int)).tmod 32)==0) then (decide ((a0.held.length:Int)≤4096)) else false)==true)=true then cF a0.Ab else some default).bind fun r1=>
(if ((bif (bif ((((a0.held.length:Int)).tmod 32)==0) then (decide ((a0.held.length:Int)≤4096)) else false) then r1 else false)==true)=true then wF a0.Ab (fun z271_0=>cG z271_0) else some default).bind fun r3=>
Cd ((bif (bif (bif ((((a0.held.length:Int)).tmod 32)==0) then (decide ((a0.held.length:Int)≤4096)) else false) then r1 else false) then r3 else false)) fun v5=>
some v5
noncomputable def BM (a0:List UInt8):Option Bool:=
some (decide ((a0.length:Int)≤65536))
noncomputable def wY (a0:Int) (a1:Int):Option Bool:=
(FB a0 0 4096).bind fun r1=>
Cd ((bif r1 then (decide ((IntKind.i64.wrap (a0+a1))≤4096)) else false)) fun v3=>
some v3
def Yv (a0:List UInt8):Option (List UInt8):=if ([]:List UInt8).length+a0.length≤140737488355328 then some a0 else none
noncomputable def Np (a1:Aa) (p6:List UInt8):Option (List UInt8):=
(cX p6 (IntKind.i64.wrap (32*a1.at_)) (p6.length:Int)).bind fun s7=>
Cd (ovl p6 ((IntKind.i64.wrap (32*a1.at_)).toNat) (a1.data.take s7.length)) fun v9=>
some v9
noncomputable def wW (a0:List UInt8) (a1:Aa):Option (List UInt8):=
Cd ((decide ((a0.length:Int)<(IntKind.i64.wrap (32*(IntKind.i64.wrap (a1.at_+1))))))) fun v1=>
if v1=true then
if 0≤(IntKind.i64.wrap ((IntKind.i64.wrap (32*(IntKind.i64.wrap (a1.at_+1))))-(a0.length:Int))) then
if ((a0.length:Int)+(IntKind.i64.wrap ((IntKind.i64.wrap (32*(IntKind.i64.wrap (a1.at_+1))))-(a0.length:Int))))*1≤140737488355328 then
Np a1 (a0++List.replicate (IntKind.i64.wrap ((IntKind.i64.wrap (32*(IntKind.i64.wrap (a1.at_+1))))-(a0.length:Int))).toNat (0:UInt8))
else none
else none
else
Np a1 a0
noncomputable def Ni (a0:Af) (s:(List UInt8)×Int):Option (((List UInt8)×Int)⊕((List UInt8))):=
match s with
| (p8,p9)=>
if (decide (p9<(a0.Ab.length:Int)))=true then
(Hh a0.Ab p9).bind fun y19=>
(wW p8 y19).bind fun r21=>
some (.inl (r21,(IntKind.i64.wrap (p9+1))))
else
some (.inr p8)
noncomputable def wC (a0:Af):Option (List UInt8):=
(Yv a0.held).bind fun r1=>
(Cb (Ni a0) (r1,0)).bind fun r23=>
(match r23 with
| p17=>
some p17)
noncomputable def Li (a0:Af) (s:Int×(List Aa)):Option ((Int×(List Aa))⊕((List Aa))):=
match s with
| (p9,p10)=>
if (decide (p9<(a0.Ab.length:Int)))=true then
(Hh a0.Ab p9).bind fun y21=>
(Yv y21.data).bind fun r23=>
if (p10.length+([(Aa.mk y21.at_ r23)]:List Aa).length)*32≤140737488355328 then
some (.inl ((IntKind.i64.wrap (p9+1)),(p10++([(Aa.mk y21.at_ r23)]:List Aa))))
else none
else
some (.inr p10)
noncomputable def xH (a0:Af):Option Af:=
(Yv a0.held).bind fun r1=>
(Cb (Li a0) (0,([]:List Aa))).bind fun r26=>
(match r26 with
| p19=>
some (Af.mk r1 p19))
noncomputable def Nr (a1:Int) (a2:List UInt8) (v6:Int) (p13:List UInt8) (s14:List UInt8) (s:Int×(List Aa)):Option ((Int×(List Aa))⊕((List Aa))):=
match s with
| (p24,p25)=>
if (decide (p24≤v6))=true then
(cX (ovl p13 a1.toNat (a2.take s14.length)) (IntKind.i64.wrap (32*p24)) (IntKind.i64.wrap (32*(IntKind.i64.wrap (p24+1))))).bind fun s36=>
(Yv s36).bind fun r38=>
if (p25.length+([(Aa.mk p24 r38)]:List Aa).length)*32≤140737488355328 then
some (.inl ((IntKind.i64.wrap (p24+1)),(p25++([(Aa.mk p24 r38)]:List Aa))))
else none
else
some (.inr p25)
noncomputable def Nq (a1:Int) (a2:List UInt8) (r1:Af) (v6:Int) (p13:List UInt8):Option Af:=
(cX p13 a1 (p13.length:Int)).bind fun s14=>
(Cb (Nr a1 a2 v6 p13 s14) ((IntKind.i64.wrap ((a1).tdiv 32)),r1.Ab)).bind fun r41=>
(match r41 with
| p34=>
some (Af.mk r1.held p34))
noncomputable def wZ (a0:Af) (a1:Int) (a2:List UInt8):Option Af:=
(xH a0).bind fun r1=>
if ((a2.length:Int)==0)=true then
some r1
else
(wC a0).bind fun r4=>
Cd (IntKind.i64.wrap (((IntKind.i64.wrap ((IntKind.i64.wrap (a1+(a2.length:Int)))-1))).tdiv 32)) fun v6=>
Cd ((decide ((r4.length:Int)<(IntKind.i64.wrap (32*(IntKind.i64.wrap (v6+1))))))) fun v8=>
if v8=true then
if 0≤(IntKind.i64.wrap ((IntKind.i64.wrap (32*(IntKind.i64.wrap (v6+1))))-(r4.length:Int))) then
if ((r4.length:Int)+(IntKind.i64.wrap ((IntKind.i64.wrap (32*(IntKind.i64.wrap (v6+1))))-(r4.length:Int))))*1≤140737488355328 then
Nq a1 a2 r1 v6 (r4++List.replicate (IntKind.i64.wrap ((IntKind.i64.wrap (32*(IntKind.i64.wrap (v6+1))))-(r4.length:Int))).toNat (0:UInt8))
else none
else none
else
Nq a1 a2 r1 v6 r4
noncomputable def wE (a0:Af) (a1:Int) (a2:List UInt8):Option (Af×Int):=
(wY a1 (a2.length:Int)).bind fun r1=>
if (!r1)=true then
some ((Af.mk ([]:List UInt8) ([]:List Aa)),9)
else
(wZ a0 a1 a2).bind fun r4=>
(cF r4.Ab).bind fun r6=>
if (!r6)=true then
some ((Af.mk ([]:List UInt8) ([]:List Aa)),6)
else
some (r4,0)
noncomputable def gL (a0:Af) (a1:Int) (a2:List UInt8):Option (Af×Int):=
(BM a2).bind fun r1=>
if (!r1)=true then
some ((Af.mk ([]:List UInt8) ([]:List Aa)),2)
else
(vZ a0).bind fun r4=>
if (!r4)=true then
some ((Af.mk ([]:List UInt8) ([]:List Aa)),1)
else
(wE a0 a1 a2).bind fun r7=>
some (r7.1,r7.2)
noncomputable def cH (a0:List UInt8) (a1:Int):Option Int:=
if (decide ((IntKind.i64.wrap (a1-(a0.length:Int)))<0))=true then
some (-1)
else
some (IntKind.i64.wrap (a1-(a0.length:Int)))
noncomputable def BT (a0:Aa) (a1:Int):Option Int:=
(cH a0.data a1).bind fun r1=>
if (decide (r1<0))=true then
some (-1)
else
some r1
noncomputable def Nj (a0:List Aa) (s:Int×Int):Option ((Int×Int)⊕(Int⊕Int)):=
match s with
| (p8,p9)=>
if (decide (p9<(a0.length:Int)))=true then
(Hh a0 p9).bind fun y20=>
(BT y20 p8).bind fun r22=>
if (decide (r22<0))=true then
some (.inr (.inr (-1)))
else
some (.inl (r22,(IntKind.i64.wrap (p9+1))))
else
some (.inr (.inl p8))
noncomputable def BP (a0:List Aa) (a1:Int):Option Int:=
if (decide ((IntKind.i64.wrap (a1-(a0.length:Int)))<0))=true then
some (-1)
else
(Cb (Nj a0) ((IntKind.i64.wrap (a1-(a0.length:Int))),0)).bind fun r25=>
(match r25 with
| .inl p18=>
some p18
| .inr q=>some q)
noncomputable def wA (a0:Af) (a1:Int):Option Int:=
(cH a0.held a1).bind fun r1=>
if (decide (r1<0))=true then
some (-1)
else
(BP a0.Ab r1).bind fun r4=>
if (decide (r4<0))=true then
some (-1)
else
some r4
noncomputable def FX (a0:Int) (a1:Int) (a2:Int):Option Bool:=
some (bif (decide (a0≥a1)) then (decide (a0≤a2)) else false)
noncomputable def Nk (a0:Af) (s:Int):Option ((Int)⊕(Unit⊕Bool)):=
match s with
| p12=>
if (decide (p12<(a0.Ab.length:Int)))=true then
(Hh a0.Ab p12).bind fun y23=>
(FX y23.at_ 0 127).bind fun r25=>
(if ((!r25)==false)=true then Hh a0.Ab p12 else some default).bind fun y27=>
if (bif (!r25) then true else ((y27.data.length:Int) != 32))=true then
some (.inr (.inr false))
else
some (.inl (IntKind.i64.wrap (p12+1)))
else
some (.inr (.inl ()))
noncomputable def wH (a0:Af):Option Bool:=
Cd ((bif (bif ((((a0.held.length:Int)).tmod 32) != 0) then true else (decide ((a0.held.length:Int)>4096))) then true else (decide ((a0.Ab.length:Int)>4096)))) fun v1=>
if v1=true then
some false
else
(Cb (Nk a0) 0).bind fun r30=>
(match r30 with
| .inl ()=>
some true
| .inr q=>some q)
noncomputable def wI (a0:Int) (a1:Int):Option Bool:=
Cd ((bif (bif (decide (a0≥0)) then (decide (a1≤4096)) else false) then (decide (a0≤(IntKind.i64.wrap (4096-a1)))) else false)) fun v1=>
some v1
noncomputable def Ns (a1:Aa) (s:(List UInt8)):Option (((List UInt8))⊕((List UInt8))):=
match s with
| p7=>
Cd ((decide ((p7.length:Int)<(IntKind.i64.wrap ((IntKind.i64.wrap (a1.at_+1))*32))))) fun v15=>
if v15=true then
if 0≤(32:Int) then
if ((p7.length:Int)+(32:Int))*1≤140737488355328 then
some (.inl (p7++List.replicate (32:Int).toNat (0:UInt8)))
else none
else none
else
some (.inr p7)
noncomputable def xE (a0:List UInt8) (a1:Aa):Option (List UInt8):=
if (([]:List UInt8).length+a0.length)*1≤140737488355328 then
(Cb (Ns a1) (([]:List UInt8)++a0)).bind fun r20=>
(match r20 with
| p14=>
(cX p14 (IntKind.i64.wrap (a1.at_*32)) (p14.length:Int)).bind fun s22=>
Cd (ovl p14 ((IntKind.i64.wrap (a1.at_*32)).toNat) (a1.data.take s22.length)) fun v24=>
some v24)
else none
noncomputable def No (a0:Af) (s:(List UInt8)×Int):Option (((List UInt8)×Int)⊕((List UInt8))):=
match s with
| (p7,p8)=>
if (decide (p8<(a0.Ab.length:Int)))=true then
(Hh a0.Ab p8).bind fun y18=>
(xE p7 y18).bind fun r20=>
some (.inl (r20,(IntKind.i64.wrap (p8+1))))
else
some (.inr p7)
noncomputable def wU (a0:Af):Option (List UInt8):=
if (([]:List UInt8).length+a0.held.length)*1≤140737488355328 then
(Cb (No a0) ((([]:List UInt8)++a0.held),0)).bind fun r22=>
(match r22 with
| p16=>
some p16)
else none
noncomputable def Nl (a1:Int) (a2:List UInt8) (s:(List UInt8)):Option (((List UInt8))⊕((List UInt8))):=
match s with
| p7=>
Cd ((bif (decide ((p7.length:Int)<(IntKind.i64.wrap (a1+(a2.length:Int))))) then true else ((((p7.length:Int)).tmod 32) != 0))) fun v14=>
if v14=true then
if (p7.length+([(0:UInt8)]:List UInt8).length)*1≤140737488355328 then
some (.inl (p7++([(0:UInt8)]:List UInt8)))
else none
else
some (.inr p7)
noncomputable def Lc (a1:Int) (a2:List UInt8) (p13:List UInt8) (s20:List UInt8) (s:Int×(List Aa)):Option ((Int×(List Aa))⊕((List Aa))):=
match s with
| (p34,p35)=>
Cd ((decide ((IntKind.i64.wrap (p34*32))<(IntKind.i64.wrap (a1+(a2.length:Int)))))) fun v46=>
if v46=true then
(cX (ovl p13 a1.toNat (a2.take s20.length)) (IntKind.i64.wrap (p34*32)) (IntKind.i64.wrap ((IntKind.i64.wrap (p34+1))*32))).bind fun s49=>
if (([]:List UInt8).length+s49.length)*1≤140737488355328 then
if (p35.length+([(Aa.mk p34 (([]:List UInt8)++s49))]:List Aa).length)*32≤140737488355328 then
some (.inl ((IntKind.i64.wrap (p34+1)),(p35++([(Aa.mk p34 (([]:List UInt8)++s49))]:List Aa))))
else none
else none
else
some (.inr p35)
noncomputable def wJ (a0:Af) (a1:Int) (a2:List UInt8):Option Af:=
(wU a0).bind fun r1=>
(Cb (Nl a1 a2) r1).bind fun r18=>
(match r18 with
| p13=>
(cX p13 a1 (p13.length:Int)).bind fun s20=>
if (([]:List Aa).length+a0.Ab.length)*32≤140737488355328 then
if ((a2.length:Int)==0)=true then
some (Af.mk a0.held (([]:List Aa)++a0.Ab))
else
(Cb (Lc a1 a2 p13 s20) ((IntKind.i64.wrap ((a1).tdiv 32)),(([]:List Aa)++a0.Ab))).bind fun r53=>
(match r53 with
| p45=>
some (Af.mk a0.held p45))
else none)
noncomputable def Ld (a0:Af) (s:Int×(List Aa)):Option ((Int×(List Aa))⊕((List Aa))):=
match s with
| (p9,p10)=>
if (decide (p9<(a0.Ab.length:Int)))=true then
(Hh a0.Ab p9).bind fun y22=>
if (([]:List UInt8).length+y22.data.length)*1≤140737488355328 then
if (p10.length+([(Aa.mk y22.at_ (([]:List UInt8)++y22.data))]:List Aa).length)*32≤140737488355328 then
Cd (p10++([(Aa.mk y22.at_ (([]:List UInt8)++y22.data))]:List Aa)) fun v26=>
some (.inl ((IntKind.i64.wrap (p9+1)),v26))
else none
else none
else
some (.inr p10)
noncomputable def wL (a0:Af):Option Af:=
if (([]:List UInt8).length+a0.held.length)*1≤140737488355328 then
(Cb (Ld a0) (0,([]:List Aa))).bind fun r28=>
(match r28 with
| p20=>
some (Af.mk (([]:List UInt8)++a0.held) p20))
else none
noncomputable def wB (a0:Af) (a1:Int) (a2:List UInt8):Option (Af×Int):=
if (decide ((a2.length:Int)>65536))=true then
some ((Af.mk ([]:List UInt8) ([]:List Aa)),2)
else
(wH a0).bind fun r2=>
if (!r2)=true then
some ((Af.mk ([]:List UInt8) ([]:List Aa)),1)
else
(wI a1 (a2.length:Int)).bind fun r5=>
if (!r5)=true then
some ((Af.mk ([]:List UInt8) ([]:List Aa)),9)
else
(wJ a0 a1 a2).bind fun r8=>
if (decide ((r8.Ab.length:Int)>4096))=true then
some ((Af.mk ([]:List UInt8) ([]:List Aa)),6)
else
(wL r8).bind fun r11=>
some (r11,0)
noncomputable def Lb (a0:List UInt8) (s:(List UInt8)×Int):Option (((List UInt8)×Int)⊕((List UInt8))):=
match s with
| (p10,p11)=>
if (decide (p11<(a0.length:Int)))=true then
(Hh a0 p11).bind fun y23=>
(Hh p10 p11).bind fun y25=>
(p10[p11.toNat]?).bind fun y27=>
some (.inl ((p10.set p11.toNat y23),(IntKind.i64.wrap (p11+1))))
else
some (.inr p10)
noncomputable def Vn (a0:List UInt8):Option (List UInt8):=
if 0≤(a0.length:Int) then
if (a0.length:Int)*1≤140737488355328 then
(Cb (Lb a0) ((List.replicate (a0.length:Int).toNat (0:UInt8)),0)).bind fun r29=>
(match r29 with
| p21=>
some p21)
else none
else none
noncomputable def gP (a0:Aa):Option Aa:=
(Vn a0.data).bind fun r1=>
some (Aa.mk a0.at_ r1)
noncomputable def Nm (a0:List Aa) (s:(List Aa)×Int):Option (((List Aa)×Int)⊕((List Aa))):=
match s with
| (p14,p15)=>
if (decide (p15<(a0.length:Int)))=true then
(Hh a0 p15).bind fun y29=>
(gP y29).bind fun r31=>
(Hh p14 p15).bind fun y33=>
(p14[p15.toNat]?).bind fun y35=>
some (.inl ((p14.set p15.toNat r31),(IntKind.i64.wrap (p15+1))))
else
some (.inr p14)
noncomputable def wN (a0:List Aa):Option (List Aa):=
if 0≤(a0.length:Int) then
if (a0.length:Int)*32≤140737488355328 then
Cd (List.replicate (a0.length:Int).toNat (Aa.mk 0 ([]:List UInt8))) fun v3=>
(Cb (Nm a0) (v3,0)).bind fun r37=>
(match r37 with
| p27=>
some p27)
else none
else none
noncomputable def Yt (a0:Af):Option Af:=
(Vn a0.held).bind fun r1=>
(wN a0.Ab).bind fun r3=>
some (Af.mk r1 r3)
noncomputable def Ng (a0:List UInt8) (a1:List UInt8) (s:Int):Option ((Int)⊕(Unit⊕Bool)):=
match s with
| p8=>
if (decide (p8<(a0.length:Int)))=true then
(Hh a0 p8).bind fun y17=>
(Hh a1 p8).bind fun y19=>
if (((y17).toNat:Int) != ((y19).toNat:Int))=true then
some (.inr (.inr false))
else
some (.inl (IntKind.i64.wrap (p8+1)))
else
some (.inr (.inl ()))
noncomputable def cD (a0:List UInt8) (a1:List UInt8):Option Bool:=
if ((a0.length:Int) != (a1.length:Int))=true then
some false
else
(Cb (Ng a0 a1) 0).bind fun r22=>
(match r22 with
| .inl ()=>
some true
| .inr q=>some q)
noncomputable def gQ (a0:Aa) (a1:Aa):Option Bool:=
if (a0.at_ != a1.at_)=true then
some false
else
(cD a0.data a1.data).bind fun r2=>
if (!r2)=true then
some false
else
some true
noncomputable def Nn (a0:List Aa) (a1:List Aa) (s:Int):Option ((Int)⊕(Unit⊕Bool)):=
match s with
| p10=>
if (decide (p10<(a0.length:Int)))=true then
(Hh a0 p10).bind fun y21=>
(Hh a1 p10).bind fun y23=>
(gQ y21 y23).bind fun r25=>
if (!r25)=true then
some (.inr (.inr false))
else
some (.inl (IntKind.i64.wrap (p10+1)))
else
some (.inr (.inl ()))
noncomputable def wP (a0:List Aa) (a1:List Aa):Option Bool:=
if ((a0.length:Int) != (a1.length:Int))=true then
some false
else
(Cb (Nn a0 a1) 0).bind fun r28=>
(match r28 with
| .inl ()=>
some true
| .inr q=>some q)
noncomputable def Yu (a0:Af) (a1:Af):Option Bool:=
(cD a0.held a1.held).bind fun r1=>
if (!r1)=true then
some false
else
(wP a0.Ab a1.Ab).bind fun r4=>
if (!r4)=true then
some false
else
some true
noncomputable def Nh  (s:(List UInt8)×Int×Int):Option (((List UInt8)×Int×Int)⊕((List UInt8)×Int)):=
match s with
| (p6,p7,p8)=>
if (decide (p8<(p6.length:Int)))=true then
(Hh p6 p8).bind fun y20=>
(p6[p8.toNat]?).bind fun y22=>
some (.inl ((p6.set p8.toNat (b8 p7)),(IntKind.i64.wrap (p7+1)),(IntKind.i64.wrap (p8+1))))
else
some (.inr (p6,p7))
noncomputable def cE (a0:List UInt8) (a1:Int):Option (Int×(List UInt8)):=
(Cb (Nh) (a0,a1,0)).bind fun r24=>
(match r24 with
| (p17,p18)=>
some (p18,p17))
noncomputable def Lf  (s:(List Aa)×Int×Int):Option (((List Aa)×Int×Int)⊕((List Aa)×Int)):=
match s with
| (p15,p16,p17)=>
if (decide (p17<(p15.length:Int)))=true then
(Hh p15 p17).bind fun y38=>
(p15[p17.toNat]?).bind fun y40=>
(Hh (p15.set p17.toNat (Aa.mk p16 y40.data)) p17).bind fun y42=>
((p15.set p17.toNat (Aa.mk p16 y40.data))[p17.toNat]?).bind fun y44=>
(cE y44.data (IntKind.i64.wrap (p16+1))).bind fun r46=>
if r46.2.length=y44.data.length then
Cd ((p15.set p17.toNat (Aa.mk p16 y40.data)).set p17.toNat (Aa.mk y44.at_ r46.2)) fun v49=>
some (.inl (v49,r46.1,(IntKind.i64.wrap (p17+1))))
else none
else
some (.inr (p15,p16))
noncomputable def wQ (a0:List Aa) (a1:Int):Option (Int×(List Aa)):=
(Cb (Lf) (a0,a1,0)).bind fun r51=>
(match r51 with
| (p35,p36)=>
some (p36,p35))
noncomputable def gM (a0:Af) (a1:Int):Option (Int×(List UInt8)×(List Aa)):=
(cE a0.held a1).bind fun r1=>
if r1.2.length=a0.held.length then
(wQ a0.Ab r1.1).bind fun r4=>
if r4.2.length=a0.Ab.length then
some (r4.1,r1.2,r4.2)
else none
else none
noncomputable def Lg (a0:List UInt8) (s:Int×Int):Option ((Int×Int)⊕(Int⊕Int)):=
match s with
| (p5,p6)=>
if (decide (p6<(a0.length:Int)))=true then
(Hh a0 p6).bind fun y15=>
if (((y15).toNat:Int) != ((b8 p5).toNat:Int))=true then
some (.inr (.inr (-1)))
else
some (.inl ((IntKind.i64.wrap (p5+1)),(IntKind.i64.wrap (p6+1))))
else
some (.inr (.inl p5))
noncomputable def gO (a0:List UInt8) (a1:Int):Option Int:=
(Cb (Lg a0) (a1,0)).bind fun r18=>
(match r18 with
| .inl p13=>
some p13
| .inr q=>some q)
noncomputable def Lh (a0:List Aa) (s:Int×Int):Option ((Int×Int)⊕(Int⊕Int)):=
match s with
| (p10,p11)=>
if (decide (p11<(a0.length:Int)))=true then
(Hh a0 p11).bind fun y25=>
if (y25.at_ != p10)=true then
some (.inr (.inr (-1)))
else
(Hh a0 p11).bind fun y28=>
(gO y28.data (IntKind.i64.wrap (p10+1))).bind fun r30=>
if (decide (r30<0))=true then
some (.inr (.inr (-1)))
else
some (.inl (r30,(IntKind.i64.wrap (p11+1))))
else
some (.inr (.inl p10))
noncomputable def wS (a0:List Aa) (a1:Int):Option Int:=
(Cb (Lh a0) (a1,0)).bind fun r33=>
(match r33 with
| .inl p23=>
some p23
| .inr q=>some q)
noncomputable def gN (a0:Af) (a1:Int):Option Int:=
(gO a0.held a1).bind fun r1=>
if (decide (r1<0))=true then
some (-1)
else
(wS a0.Ab r1).bind fun r4=>
if (decide (r4<0))=true then
some (-1)
else
some r4
noncomputable def BI (a0:Af) (a1:Int) (a2:List UInt8):Option Bool:=
if (decide ((a2.length:Int)>1048576))=true then
some true
else
(wA a0 1048576).bind fun r2=>
if (decide (r2<0))=true then
some true
else
(Yt a0).bind fun r5=>
(Vn a2).bind fun r7=>
(wB r5 a1 r7).bind fun r9=>
(Yt a0).bind fun r11=>
(Vn a2).bind fun r13=>
(gL r11 a1 r13).bind fun r15=>
(Yu r15.1 r9.1).bind fun r17=>
if (bif (!r17) then true else (r15.2 != r9.2))=true then
some false
else
(Yt a0).bind fun r20=>
(Yu r11 r20).bind fun r22=>
if (!r22)=true then
some false
else
(Vn a2).bind fun r25=>
(cD r13 r25).bind fun r27=>
if (!r27)=true then
some false
else
(gM r11 1).bind fun r30=>
if r30.2.1.length=r11.held.length then
if r30.2.2.length=r11.Ab.length then
(cE r13 r30.1).bind fun r34=>
if r34.2.length=r13.length then
(if ((decide (r34.1<0))==false)=true then Yu r15.1 r9.1 else some default).bind fun r37=>
Cd ((bif (bif (decide (r34.1<0)) then true else (!r37)) then true else (r15.2 != r9.2))) fun v39=>
if v39=true then
some false
else
(gM r15.1 1).bind fun r42=>
if r42.2.1.length=r15.1.held.length then
if r42.2.2.length=r15.1.Ab.length then
(gN (Af.mk r42.2.1 r42.2.2) 1).bind fun r46=>
if (decide (r46<0))=true then
some false
else
if (r46 != r42.1)=true then
some false
else
(Yt a0).bind fun r50=>
(Vn a2).bind fun r52=>
(gL r50 a1 r52).bind fun r54=>
(Yu r54.1 r9.1).bind fun r56=>
if (bif (!r56) then true else (r54.2 != r9.2))=true then
some false
else
(gN (Af.mk r42.2.1 r42.2.2) 1).bind fun r59=>
if (decide (r59<0))=true then
some false
else
if (r59 != r42.1)=true then
some false
else
some true
else none
else none
else none
else none
else none
end Go.Ev
