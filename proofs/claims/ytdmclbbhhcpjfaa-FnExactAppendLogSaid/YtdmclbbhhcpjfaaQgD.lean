/- Functions with the answers of the program's, written by a program of ours. -/
import Derived.Test.YtdmclbbhhcpjfaaQvG
set_option linter.all false
set_option maxHeartbeats 4000000
set_option linter.unusedVariables false
set_option maxRecDepth 100000
namespace Go.Ev
structure Aa where
  at_:Int
  data:List UInt8
  deriving Inhabited,DecidableEq
def Wd (x:Aa):Prop:=MN x.at_∧(MO Yz) x.data
def Ak (x:Aa):List V:=[.int .i64 x.at_,.lst 1 (x.data.map Dh)]
structure Af where
  held:List UInt8
  Ab:List Aa
  deriving Inhabited,DecidableEq
def Qu (x:Af):Prop:=(MO Yz) x.held∧(MO Wd) x.Ab
def Ae (x:Af):List V:=[.lst 1 (x.held.map Dh),.lst 2 (x.Ab.map Ak)]
noncomputable def CT (a0:List Aa):Option Bool:=
some (decide ((a0.length:Int)≤4096))
noncomputable def cI (a0:List Aa) (is1:Aa→Option Bool) (s:Int):Option ((Int)⊕(Unit⊕Int)):=
match s with
| p7=>
if (decide (p7<(a0.length:Int)))=true then
(Gb a0 p7).bind fun y16=>
(is1 y16).bind fun r18=>
if r18=true then
some (.inr (.inr p7))
else
some (.inl (IntKind.i64.wrap (p7+1)))
else
some (.inr (.inl ()))
noncomputable def IK (a0:List Aa) (is1:Aa→Option Bool):Option Int:=
(Bn (cI a0 is1) 0).bind fun r21=>
(match r21 with
| .inl ()=>
some (-1)
| .inr q=>some q)
noncomputable def DN (a0:List Aa) (is1:Aa→Option Bool):Option Bool:=
(IK a0 is1).bind fun r1=>
some (decide (r1≥0))
noncomputable def DQ (a0:Aa) (is1:Aa→Option Bool):Option Bool:=
(is1 a0).bind fun r1=>
some (!r1)
noncomputable def CU (a0:List Aa) (is1:Aa→Option Bool):Option Bool:=
(DN a0 (fun z330_0=>DQ z330_0 is1)).bind fun r1=>
some (!r1)
noncomputable def nX (a0:Int) (a1:Int) (a2:Int):Option Bool:=
some (bif (decide (a1≤a0)) then (decide (a0≤a2)) else false)
noncomputable def eO (a0:Aa):Option Bool:=
(nX a0.at_ 0 127).bind fun r1=>
some (bif r1 then ((a0.data.length:Int)==32) else false)
noncomputable def CP (a0:Af):Option Bool:=
(if ((bif ((((a0.held.length:Int)).tmod 32)==0) then (decide ((a0.held.length:Int)≤4096)) else false)==true)=true then CT a0.Ab else some default).bind fun r1=>
(if ((bif (bif ((((a0.held.length:Int)).tmod 32)==0) then (decide ((a0.held.length:Int)≤4096)) else false) then r1 else false)==true)=true then CU a0.Ab (fun z271_0=>eO z271_0) else some default).bind fun r3=>
Bu ((bif (bif (bif ((((a0.held.length:Int)).tmod 32)==0) then (decide ((a0.held.length:Int)≤4096)) else false) then r1 else false) then r3 else false)) fun v5=>
some v5
noncomputable def IC (a0:List UInt8):Option Bool:=
some (decide ((a0.length:Int)≤65536))
def Yn (a0:List UInt8):Option (List UInt8):=if ([]:List UInt8).length+a0.length≤140737488355328 then some a0 else none
noncomputable def Ox (a1:Aa) (p6:List UInt8):Option (List UInt8):=
(Uk p6 (IntKind.i64.wrap (32*a1.at_)) (p6.length:Int)).bind fun s7=>
Bu (ovl p6 ((IntKind.i64.wrap (32*a1.at_)).toNat) (a1.data.take s7.length)) fun v9=>
some v9
noncomputable def DJ (a0:List UInt8) (a1:Aa):Option (List UInt8):=
Bu ((decide ((a0.length:Int)<(IntKind.i64.wrap (32*(IntKind.i64.wrap (a1.at_+1))))))) fun v1=>
if v1=true then
if 0≤(IntKind.i64.wrap ((IntKind.i64.wrap (32*(IntKind.i64.wrap (a1.at_+1))))-(a0.length:Int))) then
if ((a0.length:Int)+(IntKind.i64.wrap ((IntKind.i64.wrap (32*(IntKind.i64.wrap (a1.at_+1))))-(a0.length:Int))))*1≤140737488355328 then
Ox a1 (a0++List.replicate (IntKind.i64.wrap ((IntKind.i64.wrap (32*(IntKind.i64.wrap (a1.at_+1))))-(a0.length:Int))).toNat (0:UInt8))
else none
else none
else
Ox a1 a0
noncomputable def If (a0:Af) (s:(List UInt8)×Int):Option (((List UInt8)×Int)⊕((List UInt8))):=
match s with
| (p8,p9)=>
if (decide (p9<(a0.Ab.length:Int)))=true then
(Gb a0.Ab p9).bind fun y19=>
(DJ p8 y19).bind fun r21=>
some (.inl (r21,(IntKind.i64.wrap (p9+1))))
else
some (.inr p8)
noncomputable def Ym (a0:Af):Option (List UInt8):=
(Yn a0.held).bind fun r1=>
(Bn (If a0) (r1,0)).bind fun r23=>
(match r23 with
| p17=>
some p17)
noncomputable def ID (a0:Af):Option Af:=
(Ym a0).bind fun r1=>
some (Af.mk r1 ([]:List Aa))
noncomputable def Mf (a0:Int) (a1:Int) (s:(List UInt8)×Int):Option (((List UInt8)×Int)⊕((List UInt8))):=
match s with
| (p9,p10)=>
if (decide (p10<((List.replicate a1.toNat (0:UInt8)).length:Int)))=true then
if 0≤(IntKind.i64.wrap (8*p10)) then
(Gb p9 (IntKind.i64.wrap ((IntKind.i64.wrap (a1-1))-p10))).bind fun y22=>
(p9[(IntKind.i64.wrap ((IntKind.i64.wrap (a1-1))-p10)).toNat]?).bind fun y24=>
some (.inl ((p9.set ((IntKind.i64.wrap ((IntKind.i64.wrap (a1-1))-p10)).toNat) (b8 (Ux .i64 a0 (IntKind.i64.wrap (8*p10))))),(IntKind.i64.wrap (p10+1))))
else none
else
some (.inr p9)
noncomputable def aL (a0:Int) (a1:Int):Option (List UInt8):=
if 0≤a1 then
if a1*1≤140737488355328 then
(Bn (Mf a0 a1) ((List.replicate a1.toNat (0:UInt8)),0)).bind fun r26=>
(match r26 with
| p19=>
some p19)
else none
else none
noncomputable def Sd (p49:Int) (p58:Int):Option ((Int×Int)⊕(Int)):=
some (.inl (p58,(IntKind.i64.wrap (p49+1))))
noncomputable def Mh  (s:Int×Int):Option ((Int×Int)⊕(Int)):=
match s with
| (p48,p49)=>
if (decide (p49<8))=true then
if ((eV .u32 p48 1)==1)=true then
Sd p49 (Rt .u32 (Ux .u32 p48 1) 3988292384)
else
Sd p49 (Ux .u32 p48 1)
else
some (.inr p48)
noncomputable def Mg (a0:List UInt8) (s:Int×Int):Option ((Int×Int)⊕(Int)):=
match s with
| (p19,p20)=>
if (decide (p20<(a0.length:Int)))=true then
(Gb a0 p20).bind fun y41=>
(Bn (Mh) ((Rt .u32 p19 (IntKind.u32.wrap ((y41).toNat:Int))),0)).bind fun r61=>
(match r61 with
| p55=>
some (.inl (p55,(IntKind.i64.wrap (p20+1)))))
else
some (.inr p19)
noncomputable def kU (a0:List UInt8):Option Int:=
(Bn (Mg a0) (4294967295,0)).bind fun r63=>
(match r63 with
| p39=>
some (IntKind.i64.wrap (MJ .u32 p39)))
noncomputable def CX (a0:List UInt8):Option (List UInt8):=
(aL (IntKind.i64.wrap ((a0.length:Int)+1)) 2).bind fun r1=>
if (r1.length+a0.length)*1≤140737488355328 then
(kU (r1++a0)).bind fun r4=>
(aL r4 4).bind fun r6=>
if ((r1++a0).length+r6.length)*1≤140737488355328 then
some ((r1++a0)++r6)
else none
else none
noncomputable def Mi (a0:List UInt8) (s:Int×Int):Option ((Int×Int)⊕(Int)):=
match s with
| (p4,p5)=>
if (decide (p5<(a0.length:Int)))=true then
(Gb a0 p5).bind fun y13=>
some (.inl ((MY .i64 (EB .i64 p4 8) (IntKind.i64.wrap ((y13).toNat:Int))),(IntKind.i64.wrap (p5+1))))
else
some (.inr p4)
noncomputable def kV (a0:List UInt8):Option Int:=
(Bn (Mi a0) (0,0)).bind fun r15=>
(match r15 with
| p11=>
some p11)
noncomputable def Ig (a0:List UInt8) (s:(List (List UInt8))×Int):Option (((List (List UInt8))×Int)⊕((List (List UInt8))×Int)):=
match s with
| (p26,p27)=>
if (decide ((IntKind.i64.wrap (p27+2))≤(a0.length:Int)))=true then
(Uk a0 p27 (IntKind.i64.wrap (p27+2))).bind fun s58=>
(kV s58).bind fun r60=>
Bu (IntKind.i64.wrap ((IntKind.i64.wrap (p27+2))+(IntKind.i64.wrap (r60-1)))) fun v62=>
(nX (IntKind.i64.wrap (r60-1)) 0 2000).bind fun r64=>
(if ((bif (!r64) then true else (decide ((IntKind.i64.wrap (v62+4))>(a0.length:Int))))==false)=true then Uk a0 p27 v62 else some default).bind fun s66=>
(if ((bif (!r64) then true else (decide ((IntKind.i64.wrap (v62+4))>(a0.length:Int))))==false)=true then Uk a0 v62 (IntKind.i64.wrap (v62+4)) else some default).bind fun s68=>
(if ((bif (!r64) then true else (decide ((IntKind.i64.wrap (v62+4))>(a0.length:Int))))==false)=true then kU s66 else some default).bind fun r70=>
(if ((bif (!r64) then true else (decide ((IntKind.i64.wrap (v62+4))>(a0.length:Int))))==false)=true then kV s68 else some default).bind fun r72=>
Bu ((bif (bif (!r64) then true else (decide ((IntKind.i64.wrap (v62+4))>(a0.length:Int)))) then true else (r70 != r72))) fun v74=>
if v74=true then
some (.inr (p26,p27))
else
(Uk a0 (IntKind.i64.wrap (p27+2)) v62).bind fun s77=>
(Yn s77).bind fun r79=>
if (p26.length+([r79]:List (List UInt8)).length)*24≤140737488355328 then
some (.inl ((p26++([r79]:List (List UInt8))),(IntKind.i64.wrap (v62+4))))
else none
else
some (.inr (p26,p27))
noncomputable def eP (a0:List UInt8):Option ((List (List UInt8))×Int):=
(Bn (Ig a0) ([],0)).bind fun r82=>
(match r82 with
| (p55,p56)=>
some (p55,p56))
noncomputable def DK (a0:Int) (a1:Int):Option Bool:=
(nX a0 0 4096).bind fun r1=>
Bu ((bif r1 then (decide ((IntKind.i64.wrap (a0+a1))≤4096)) else false)) fun v3=>
some v3
noncomputable def Ml (a0:Af) (s:Int×(List Aa)):Option ((Int×(List Aa))⊕((List Aa))):=
match s with
| (p9,p10)=>
if (decide (p9<(a0.Ab.length:Int)))=true then
(Gb a0.Ab p9).bind fun y21=>
(Yn y21.data).bind fun r23=>
if (p10.length+([(Aa.mk y21.at_ r23)]:List Aa).length)*32≤140737488355328 then
some (.inl ((IntKind.i64.wrap (p9+1)),(p10++([(Aa.mk y21.at_ r23)]:List Aa))))
else none
else
some (.inr p10)
noncomputable def DW (a0:Af):Option Af:=
(Yn a0.held).bind fun r1=>
(Bn (Ml a0) (0,([]:List Aa))).bind fun r26=>
(match r26 with
| p19=>
some (Af.mk r1 p19))
noncomputable def Oz (a1:Int) (a2:List UInt8) (v6:Int) (p13:List UInt8) (s14:List UInt8) (s:Int×(List Aa)):Option ((Int×(List Aa))⊕((List Aa))):=
match s with
| (p24,p25)=>
if (decide (p24≤v6))=true then
(Uk (ovl p13 a1.toNat (a2.take s14.length)) (IntKind.i64.wrap (32*p24)) (IntKind.i64.wrap (32*(IntKind.i64.wrap (p24+1))))).bind fun s36=>
(Yn s36).bind fun r38=>
if (p25.length+([(Aa.mk p24 r38)]:List Aa).length)*32≤140737488355328 then
some (.inl ((IntKind.i64.wrap (p24+1)),(p25++([(Aa.mk p24 r38)]:List Aa))))
else none
else
some (.inr p25)
noncomputable def Oy (a1:Int) (a2:List UInt8) (r1:Af) (v6:Int) (p13:List UInt8):Option Af:=
(Uk p13 a1 (p13.length:Int)).bind fun s14=>
(Bn (Oz a1 a2 v6 p13 s14) ((IntKind.i64.wrap ((a1).tdiv 32)),r1.Ab)).bind fun r41=>
(match r41 with
| p34=>
some (Af.mk r1.held p34))
noncomputable def DL (a0:Af) (a1:Int) (a2:List UInt8):Option Af:=
(DW a0).bind fun r1=>
if ((a2.length:Int)==0)=true then
some r1
else
(Ym a0).bind fun r4=>
Bu (IntKind.i64.wrap (((IntKind.i64.wrap ((IntKind.i64.wrap (a1+(a2.length:Int)))-1))).tdiv 32)) fun v6=>
Bu ((decide ((r4.length:Int)<(IntKind.i64.wrap (32*(IntKind.i64.wrap (v6+1))))))) fun v8=>
if v8=true then
if 0≤(IntKind.i64.wrap ((IntKind.i64.wrap (32*(IntKind.i64.wrap (v6+1))))-(r4.length:Int))) then
if ((r4.length:Int)+(IntKind.i64.wrap ((IntKind.i64.wrap (32*(IntKind.i64.wrap (v6+1))))-(r4.length:Int))))*1≤140737488355328 then
Oy a1 a2 r1 v6 (r4++List.replicate (IntKind.i64.wrap ((IntKind.i64.wrap (32*(IntKind.i64.wrap (v6+1))))-(r4.length:Int))).toNat (0:UInt8))
else none
else none
else
Oy a1 a2 r1 v6 r4
noncomputable def kO (a0:Af) (a1:List UInt8):Option (Af×Int):=
if (decide ((a1.length:Int)>2000))=true then
some ((Af.mk ([]:List UInt8) ([]:List Aa)),4)
else
(Ym a0).bind fun r2=>
(eP r2).bind fun r4=>
(CX a1).bind fun r6=>
(DK r4.2 (r6.length:Int)).bind fun r8=>
if (!r8)=true then
some ((Af.mk ([]:List UInt8) ([]:List Aa)),9)
else
(DL a0 r4.2 r6).bind fun r11=>
(ID r11).bind fun r13=>
some (r13,0)
noncomputable def kK (a0:Af) (a1:List UInt8):Option (Af×Int):=
(IC a1).bind fun r1=>
if (!r1)=true then
some ((Af.mk ([]:List UInt8) ([]:List Aa)),2)
else
(CP a0).bind fun r4=>
if (!r4)=true then
some ((Af.mk ([]:List UInt8) ([]:List Aa)),1)
else
(kO a0 a1).bind fun r7=>
some (r7.1,r7.2)
noncomputable def eQ (a0:List UInt8) (a1:Int):Option Int:=
if (decide ((IntKind.i64.wrap (a1-(a0.length:Int)))<0))=true then
some (-1)
else
some (IntKind.i64.wrap (a1-(a0.length:Int)))
noncomputable def IJ (a0:Aa) (a1:Int):Option Int:=
(eQ a0.data a1).bind fun r1=>
if (decide (r1<0))=true then
some (-1)
else
some r1
noncomputable def Oo (a0:List Aa) (s:Int×Int):Option ((Int×Int)⊕(Int⊕Int)):=
match s with
| (p8,p9)=>
if (decide (p9<(a0.length:Int)))=true then
(Gb a0 p9).bind fun y20=>
(IJ y20 p8).bind fun r22=>
if (decide (r22<0))=true then
some (.inr (.inr (-1)))
else
some (.inl (r22,(IntKind.i64.wrap (p9+1))))
else
some (.inr (.inl p8))
noncomputable def IF (a0:List Aa) (a1:Int):Option Int:=
if (decide ((IntKind.i64.wrap (a1-(a0.length:Int)))<0))=true then
some (-1)
else
(Bn (Oo a0) ((IntKind.i64.wrap (a1-(a0.length:Int))),0)).bind fun r25=>
(match r25 with
| .inl p18=>
some p18
| .inr q=>some q)
noncomputable def CQ (a0:Af) (a1:Int):Option Int:=
(eQ a0.held a1).bind fun r1=>
if (decide (r1<0))=true then
some (-1)
else
(IF a0.Ab r1).bind fun r4=>
if (decide (r4<0))=true then
some (-1)
else
some r4
noncomputable def Lz (a0:List UInt8) (s:(List UInt8)×Int):Option (((List UInt8)×Int)⊕((List UInt8))):=
match s with
| (p10,p11)=>
if (decide (p11<(a0.length:Int)))=true then
(Gb a0 p11).bind fun y23=>
(Gb p10 p11).bind fun y25=>
(p10[p11.toNat]?).bind fun y27=>
some (.inl ((p10.set p11.toNat y23),(IntKind.i64.wrap (p11+1))))
else
some (.inr p10)
noncomputable def Xc (a0:List UInt8):Option (List UInt8):=
if 0≤(a0.length:Int) then
if (a0.length:Int)*1≤140737488355328 then
(Bn (Lz a0) ((List.replicate (a0.length:Int).toNat (0:UInt8)),0)).bind fun r29=>
(match r29 with
| p21=>
some p21)
else none
else none
noncomputable def kW (a0:Aa):Option Aa:=
(Xc a0.data).bind fun r1=>
some (Aa.mk a0.at_ r1)
noncomputable def Ou (a0:List Aa) (s:(List Aa)×Int):Option (((List Aa)×Int)⊕((List Aa))):=
match s with
| (p14,p15)=>
if (decide (p15<(a0.length:Int)))=true then
(Gb a0 p15).bind fun y29=>
(kW y29).bind fun r31=>
(Gb p14 p15).bind fun y33=>
(p14[p15.toNat]?).bind fun y35=>
some (.inl ((p14.set p15.toNat r31),(IntKind.i64.wrap (p15+1))))
else
some (.inr p14)
noncomputable def DB (a0:List Aa):Option (List Aa):=
if 0≤(a0.length:Int) then
if (a0.length:Int)*32≤140737488355328 then
Bu (List.replicate (a0.length:Int).toNat (Aa.mk 0 ([]:List UInt8))) fun v3=>
(Bn (Ou a0) (v3,0)).bind fun r37=>
(match r37 with
| p27=>
some p27)
else none
else none
noncomputable def aJ (a0:Af):Option Af:=
(Xc a0.held).bind fun r1=>
(DB a0.Ab).bind fun r3=>
some (Af.mk r1 r3)
noncomputable def Om (a0:List UInt8) (a1:List UInt8) (s:Int):Option ((Int)⊕(Unit⊕Bool)):=
match s with
| p8=>
if (decide (p8<(a0.length:Int)))=true then
(Gb a0 p8).bind fun y17=>
(Gb a1 p8).bind fun y19=>
if (((y17).toNat:Int) != ((y19).toNat:Int))=true then
some (.inr (.inr false))
else
some (.inl (IntKind.i64.wrap (p8+1)))
else
some (.inr (.inl ()))
noncomputable def eM (a0:List UInt8) (a1:List UInt8):Option Bool:=
if ((a0.length:Int) != (a1.length:Int))=true then
some false
else
(Bn (Om a0 a1) 0).bind fun r22=>
(match r22 with
| .inl ()=>
some true
| .inr q=>some q)
noncomputable def kX (a0:Aa) (a1:Aa):Option Bool:=
if (a0.at_ != a1.at_)=true then
some false
else
(eM a0.data a1.data).bind fun r2=>
if (!r2)=true then
some false
else
some true
noncomputable def Ov (a0:List Aa) (a1:List Aa) (s:Int):Option ((Int)⊕(Unit⊕Bool)):=
match s with
| p10=>
if (decide (p10<(a0.length:Int)))=true then
(Gb a0 p10).bind fun y21=>
(Gb a1 p10).bind fun y23=>
(kX y21 y23).bind fun r25=>
if (!r25)=true then
some (.inr (.inr false))
else
some (.inl (IntKind.i64.wrap (p10+1)))
else
some (.inr (.inl ()))
noncomputable def DD (a0:List Aa) (a1:List Aa):Option Bool:=
if ((a0.length:Int) != (a1.length:Int))=true then
some false
else
(Bn (Ov a0 a1) 0).bind fun r28=>
(match r28 with
| .inl ()=>
some true
| .inr q=>some q)
noncomputable def aK (a0:Af) (a1:Af):Option Bool:=
(eM a0.held a1.held).bind fun r1=>
if (!r1)=true then
some false
else
(DD a0.Ab a1.Ab).bind fun r4=>
if (!r4)=true then
some false
else
some true
noncomputable def On  (s:(List UInt8)×Int×Int):Option (((List UInt8)×Int×Int)⊕((List UInt8)×Int)):=
match s with
| (p6,p7,p8)=>
if (decide (p8<(p6.length:Int)))=true then
(Gb p6 p8).bind fun y20=>
(p6[p8.toNat]?).bind fun y22=>
some (.inl ((p6.set p8.toNat (b8 p7)),(IntKind.i64.wrap (p7+1)),(IntKind.i64.wrap (p8+1))))
else
some (.inr (p6,p7))
noncomputable def eN (a0:List UInt8) (a1:Int):Option (Int×(List UInt8)):=
(Bn (On) (a0,a1,0)).bind fun r24=>
(match r24 with
| (p17,p18)=>
some (p18,p17))
noncomputable def Mb  (s:(List Aa)×Int×Int):Option (((List Aa)×Int×Int)⊕((List Aa)×Int)):=
match s with
| (p15,p16,p17)=>
if (decide (p17<(p15.length:Int)))=true then
(Gb p15 p17).bind fun y38=>
(p15[p17.toNat]?).bind fun y40=>
(Gb (p15.set p17.toNat (Aa.mk p16 y40.data)) p17).bind fun y42=>
((p15.set p17.toNat (Aa.mk p16 y40.data))[p17.toNat]?).bind fun y44=>
(eN y44.data (IntKind.i64.wrap (p16+1))).bind fun r46=>
if r46.2.length=y44.data.length then
Bu ((p15.set p17.toNat (Aa.mk p16 y40.data)).set p17.toNat (Aa.mk y44.at_ r46.2)) fun v49=>
some (.inl (v49,r46.1,(IntKind.i64.wrap (p17+1))))
else none
else
some (.inr (p15,p16))
noncomputable def DE (a0:List Aa) (a1:Int):Option (Int×(List Aa)):=
(Bn (Mb) (a0,a1,0)).bind fun r51=>
(match r51 with
| (p35,p36)=>
some (p36,p35))
noncomputable def kL (a0:Af) (a1:Int):Option (Int×(List UInt8)×(List Aa)):=
(eN a0.held a1).bind fun r1=>
if r1.2.length=a0.held.length then
(DE a0.Ab r1.1).bind fun r4=>
if r4.2.length=a0.Ab.length then
some (r4.1,r1.2,r4.2)
else none
else none
noncomputable def Mc (a0:List UInt8) (s:Int×Int):Option ((Int×Int)⊕(Int⊕Int)):=
match s with
| (p5,p6)=>
if (decide (p6<(a0.length:Int)))=true then
(Gb a0 p6).bind fun y15=>
if (((y15).toNat:Int) != ((b8 p5).toNat:Int))=true then
some (.inr (.inr (-1)))
else
some (.inl ((IntKind.i64.wrap (p5+1)),(IntKind.i64.wrap (p6+1))))
else
some (.inr (.inl p5))
noncomputable def kR (a0:List UInt8) (a1:Int):Option Int:=
(Bn (Mc a0) (a1,0)).bind fun r18=>
(match r18 with
| .inl p13=>
some p13
| .inr q=>some q)
noncomputable def Md (a0:List Aa) (s:Int×Int):Option ((Int×Int)⊕(Int⊕Int)):=
match s with
| (p10,p11)=>
if (decide (p11<(a0.length:Int)))=true then
(Gb a0 p11).bind fun y25=>
if (y25.at_ != p10)=true then
some (.inr (.inr (-1)))
else
(Gb a0 p11).bind fun y28=>
(kR y28.data (IntKind.i64.wrap (p10+1))).bind fun r30=>
if (decide (r30<0))=true then
some (.inr (.inr (-1)))
else
some (.inl (r30,(IntKind.i64.wrap (p11+1))))
else
some (.inr (.inl p10))
noncomputable def DG (a0:List Aa) (a1:Int):Option Int:=
(Bn (Md a0) (a1,0)).bind fun r33=>
(match r33 with
| .inl p23=>
some p23
| .inr q=>some q)
noncomputable def kM (a0:Af) (a1:Int):Option Int:=
(kR a0.held a1).bind fun r1=>
if (decide (r1<0))=true then
some (-1)
else
(DG a0.Ab r1).bind fun r4=>
if (decide (r4<0))=true then
some (-1)
else
some r4
noncomputable def MX (a0:Int) (a1:Int) (a2:Int):Option Bool:=
some (bif (decide (a0≥a1)) then (decide (a0≤a2)) else false)
noncomputable def Oq (a0:Af) (s:Int):Option ((Int)⊕(Unit⊕Bool)):=
match s with
| p12=>
if (decide (p12<(a0.Ab.length:Int)))=true then
(Gb a0.Ab p12).bind fun y23=>
(MX y23.at_ 0 127).bind fun r25=>
(if ((!r25)==false)=true then Gb a0.Ab p12 else some default).bind fun y27=>
if (bif (!r25) then true else ((y27.data.length:Int) != 32))=true then
some (.inr (.inr false))
else
some (.inl (IntKind.i64.wrap (p12+1)))
else
some (.inr (.inl ()))
noncomputable def CZ (a0:Af):Option Bool:=
Bu ((bif (bif ((((a0.held.length:Int)).tmod 32) != 0) then true else (decide ((a0.held.length:Int)>4096))) then true else (decide ((a0.Ab.length:Int)>4096)))) fun v1=>
if v1=true then
some false
else
(Bn (Oq a0) 0).bind fun r30=>
(match r30 with
| .inl ()=>
some true
| .inr q=>some q)
noncomputable def kP (a0:Int) (a1:Int):Option Bool:=
Bu ((bif (bif (decide (a0≥0)) then (decide (a1≤4096)) else false) then (decide (a0≤(IntKind.i64.wrap (4096-a1)))) else false)) fun v1=>
some v1
noncomputable def Pa (a1:Aa) (s:(List UInt8)):Option (((List UInt8))⊕((List UInt8))):=
match s with
| p7=>
Bu ((decide ((p7.length:Int)<(IntKind.i64.wrap ((IntKind.i64.wrap (a1.at_+1))*32))))) fun v15=>
if v15=true then
if 0≤(32:Int) then
if ((p7.length:Int)+(32:Int))*1≤140737488355328 then
some (.inl (p7++List.replicate (32:Int).toNat (0:UInt8)))
else none
else none
else
some (.inr p7)
noncomputable def DT (a0:List UInt8) (a1:Aa):Option (List UInt8):=
if (([]:List UInt8).length+a0.length)*1≤140737488355328 then
(Bn (Pa a1) (([]:List UInt8)++a0)).bind fun r20=>
(match r20 with
| p14=>
(Uk p14 (IntKind.i64.wrap (a1.at_*32)) (p14.length:Int)).bind fun s22=>
Bu (ovl p14 ((IntKind.i64.wrap (a1.at_*32)).toNat) (a1.data.take s22.length)) fun v24=>
some v24)
else none
noncomputable def Ih (a0:Af) (s:(List UInt8)×Int):Option (((List UInt8)×Int)⊕((List UInt8))):=
match s with
| (p7,p8)=>
if (decide (p8<(a0.Ab.length:Int)))=true then
(Gb a0.Ab p8).bind fun y18=>
(DT p7 y18).bind fun r20=>
some (.inl (r20,(IntKind.i64.wrap (p8+1))))
else
some (.inr p7)
noncomputable def Uv (a0:Af):Option (List UInt8):=
if (([]:List UInt8).length+a0.held.length)*1≤140737488355328 then
(Bn (Ih a0) ((([]:List UInt8)++a0.held),0)).bind fun r22=>
(match r22 with
| p16=>
some p16)
else none
noncomputable def Ot (a1:Int) (a2:List UInt8) (s:(List UInt8)):Option (((List UInt8))⊕((List UInt8))):=
match s with
| p7=>
Bu ((bif (decide ((p7.length:Int)<(IntKind.i64.wrap (a1+(a2.length:Int))))) then true else ((((p7.length:Int)).tmod 32) != 0))) fun v14=>
if v14=true then
if (p7.length+([(0:UInt8)]:List UInt8).length)*1≤140737488355328 then
some (.inl (p7++([(0:UInt8)]:List UInt8)))
else none
else
some (.inr p7)
noncomputable def Ma (a1:Int) (a2:List UInt8) (p13:List UInt8) (s20:List UInt8) (s:Int×(List Aa)):Option ((Int×(List Aa))⊕((List Aa))):=
match s with
| (p34,p35)=>
Bu ((decide ((IntKind.i64.wrap (p34*32))<(IntKind.i64.wrap (a1+(a2.length:Int)))))) fun v46=>
if v46=true then
(Uk (ovl p13 a1.toNat (a2.take s20.length)) (IntKind.i64.wrap (p34*32)) (IntKind.i64.wrap ((IntKind.i64.wrap (p34+1))*32))).bind fun s49=>
if (([]:List UInt8).length+s49.length)*1≤140737488355328 then
if (p35.length+([(Aa.mk p34 (([]:List UInt8)++s49))]:List Aa).length)*32≤140737488355328 then
some (.inl ((IntKind.i64.wrap (p34+1)),(p35++([(Aa.mk p34 (([]:List UInt8)++s49))]:List Aa))))
else none
else none
else
some (.inr p35)
noncomputable def kQ (a0:Af) (a1:Int) (a2:List UInt8):Option Af:=
(Uv a0).bind fun r1=>
(Bn (Ot a1 a2) r1).bind fun r18=>
(match r18 with
| p13=>
(Uk p13 a1 (p13.length:Int)).bind fun s20=>
if (([]:List Aa).length+a0.Ab.length)*32≤140737488355328 then
if ((a2.length:Int)==0)=true then
some (Af.mk a0.held (([]:List Aa)++a0.Ab))
else
(Bn (Ma a1 a2 p13 s20) ((IntKind.i64.wrap ((a1).tdiv 32)),(([]:List Aa)++a0.Ab))).bind fun r53=>
(match r53 with
| p45=>
some (Af.mk a0.held p45))
else none)
noncomputable def Se (p47:Int) (p56:Int):Option ((Int×Int)⊕(Int)):=
some (.inl (p56,(IntKind.i64.wrap (p47+1))))
noncomputable def Mk  (s:Int×Int):Option ((Int×Int)⊕(Int)):=
match s with
| (p46,p47)=>
if (decide (p47<8))=true then
if (((p46).tmod 2)==1)=true then
Se p47 (Rt .i64 (IntKind.i64.wrap ((p46).tdiv 2)) 3988292384)
else
Se p47 (IntKind.i64.wrap ((p46).tdiv 2))
else
some (.inr p46)
noncomputable def Mj (a0:List UInt8) (s:Int×Int):Option ((Int×Int)⊕(Int)):=
match s with
| (p17,p18)=>
if (decide (p18<(a0.length:Int)))=true then
(Gb a0 p18).bind fun y39=>
(Bn (Mk) ((Rt .i64 p17 (IntKind.i64.wrap ((y39).toNat:Int))),0)).bind fun r59=>
(match r59 with
| p53=>
some (.inl (p53,(IntKind.i64.wrap (p18+1)))))
else
some (.inr p17)
noncomputable def DU (a0:List UInt8):Option Int:=
(Bn (Mj a0) (4294967295,0)).bind fun r61=>
(match r61 with
| p37=>
some (Rt .i64 p37 4294967295))
noncomputable def eT (a0:List UInt8):Option (List UInt8):=
if (([b8 (IntKind.i64.wrap (((IntKind.i64.wrap ((a0.length:Int)+1))).tdiv 256)),b8 (((IntKind.i64.wrap ((a0.length:Int)+1))).tmod 256)]:List UInt8).length+a0.length)*1≤140737488355328 then
Bu (([b8 (IntKind.i64.wrap (((IntKind.i64.wrap ((a0.length:Int)+1))).tdiv 256)),b8 (((IntKind.i64.wrap ((a0.length:Int)+1))).tmod 256)]:List UInt8)++a0) fun v2=>
(DU v2).bind fun r4=>
if (v2.length+([b8 (IntKind.i64.wrap ((r4).tdiv 16777216)),b8 (((IntKind.i64.wrap ((r4).tdiv 65536))).tmod 256),b8 (((IntKind.i64.wrap ((r4).tdiv 256))).tmod 256),b8 ((r4).tmod 256)]:List UInt8).length)*1≤140737488355328 then
Bu (v2++([b8 (IntKind.i64.wrap ((r4).tdiv 16777216)),b8 (((IntKind.i64.wrap ((r4).tdiv 65536))).tmod 256),b8 (((IntKind.i64.wrap ((r4).tdiv 256))).tmod 256),b8 ((r4).tmod 256)]:List UInt8)) fun v7=>
some v7
else none
else none
noncomputable def Ii (a0:List UInt8) (a1:Int) (v6:Int) (r14:(List UInt8)) (s:Int):Option ((Int)⊕(Unit⊕((List UInt8)×Bool))):=
match s with
| p24=>
if (decide (p24<4))=true then
(Gb a0 (IntKind.i64.wrap ((IntKind.i64.wrap ((IntKind.i64.wrap (a1+2))+v6))+p24))).bind fun y35=>
(Gb r14 (IntKind.i64.wrap ((IntKind.i64.wrap (2+v6))+p24))).bind fun y37=>
(r14[(IntKind.i64.wrap ((IntKind.i64.wrap (2+v6))+p24)).toNat]?).bind fun y39=>
if (((y35).toNat:Int) != ((y39).toNat:Int))=true then
some (.inr (.inr (([]:List UInt8),false)))
else
some (.inl (IntKind.i64.wrap (p24+1)))
else
some (.inr (.inl ()))
noncomputable def DR (a0:List UInt8) (a1:Int):Option ((List UInt8)×Bool):=
if (decide ((IntKind.i64.wrap (a1+2))>(a0.length:Int)))=true then
some (([]:List UInt8),false)
else
(Gb a0 a1).bind fun y2=>
(Gb a0 (IntKind.i64.wrap (a1+1))).bind fun y4=>
Bu (IntKind.i64.wrap ((IntKind.i64.wrap ((IntKind.i64.wrap ((IntKind.i64.wrap ((y2).toNat:Int))*256))+(IntKind.i64.wrap ((y4).toNat:Int))))-1)) fun v6=>
Bu ((bif (bif (decide (v6<0)) then true else (decide (v6>2000))) then true else (decide ((IntKind.i64.wrap ((IntKind.i64.wrap (a1+v6))+6))>(a0.length:Int))))) fun v8=>
if v8=true then
some (([]:List UInt8),false)
else
(Uk a0 (IntKind.i64.wrap (a1+2)) (IntKind.i64.wrap ((IntKind.i64.wrap (a1+2))+v6))).bind fun s11=>
if (([]:List UInt8).length+s11.length)*1≤140737488355328 then
(eT (([]:List UInt8)++s11)).bind fun r14=>
(Bn (Ii a0 a1 v6 r14) 0).bind fun r42=>
(match r42 with
| .inl ()=>
some (([]:List UInt8)++s11,true)
| .inr q=>some q)
else none
noncomputable def Ow (a0:List UInt8) (s:(List (List UInt8))×Int):Option (((List (List UInt8))×Int)⊕((List (List UInt8))×Int)):=
match s with
| (p5,p6)=>
(DR a0 p6).bind fun r13=>
if (!r13.2)=true then
some (.inr (p5,p6))
else
if (p5.length+([r13.1]:List (List UInt8)).length)*24≤140737488355328 then
some (.inl ((p5++([r13.1]:List (List UInt8))),(IntKind.i64.wrap (p6+(IntKind.i64.wrap ((r13.1.length:Int)+6))))))
else none
noncomputable def kS (a0:List UInt8):Option ((List (List UInt8))×Int):=
(Bn (Ow a0) (([]:List (List UInt8)),0)).bind fun r17=>
(match r17 with
| q=>some q)
noncomputable def CR (a0:Af) (a1:List UInt8):Option (Af×Int):=
if (decide ((a1.length:Int)>65536))=true then
some ((Af.mk ([]:List UInt8) ([]:List Aa)),2)
else
(CZ a0).bind fun r2=>
if (!r2)=true then
some ((Af.mk ([]:List UInt8) ([]:List Aa)),1)
else
if (decide ((a1.length:Int)>2000))=true then
some ((Af.mk ([]:List UInt8) ([]:List Aa)),4)
else
(Uv a0).bind fun r6=>
(kS r6).bind fun r8=>
(eT a1).bind fun r10=>
(kP r8.2 (r10.length:Int)).bind fun r12=>
if (!r12)=true then
some ((Af.mk ([]:List UInt8) ([]:List Aa)),9)
else
(kQ a0 r8.2 r10).bind fun r15=>
(Uv r15).bind fun r17=>
some ((Af.mk r17 ([]:List Aa)),0)
noncomputable def IA (a0:Af) (a1:List UInt8):Option Bool:=
if (decide ((a1.length:Int)>1048576))=true then
some true
else
(CQ a0 1048576).bind fun r2=>
if (decide (r2<0))=true then
some true
else
(aJ a0).bind fun r5=>
(Xc a1).bind fun r7=>
(CR r5 r7).bind fun r9=>
(aJ a0).bind fun r11=>
(Xc a1).bind fun r13=>
(kK r11 r13).bind fun r15=>
(aK r15.1 r9.1).bind fun r17=>
if (bif (!r17) then true else (r15.2 != r9.2))=true then
some false
else
(aJ a0).bind fun r20=>
(aK r11 r20).bind fun r22=>
if (!r22)=true then
some false
else
(Xc a1).bind fun r25=>
(eM r13 r25).bind fun r27=>
if (!r27)=true then
some false
else
(kL r11 1).bind fun r30=>
if r30.2.1.length=r11.held.length then
if r30.2.2.length=r11.Ab.length then
(eN r13 r30.1).bind fun r34=>
if r34.2.length=r13.length then
(if ((decide (r34.1<0))==false)=true then aK r15.1 r9.1 else some default).bind fun r37=>
Bu ((bif (bif (decide (r34.1<0)) then true else (!r37)) then true else (r15.2 != r9.2))) fun v39=>
if v39=true then
some false
else
(kL r15.1 1).bind fun r42=>
if r42.2.1.length=r15.1.held.length then
if r42.2.2.length=r15.1.Ab.length then
(kM (Af.mk r42.2.1 r42.2.2) 1).bind fun r46=>
if (decide (r46<0))=true then
some false
else
if (r46 != r42.1)=true then
some false
else
(aJ a0).bind fun r50=>
(Xc a1).bind fun r52=>
(kK r50 r52).bind fun r54=>
(aK r54.1 r9.1).bind fun r56=>
if (bif (!r56) then true else (r54.2 != r9.2))=true then
some false
else
(kM (Af.mk r42.2.1 r42.2.2) 1).bind fun r59=>
if (decide (r59<0))=true then
some false
else
if (r59 != r42.1)=true then
some false
else
some true
else none
else none
else none
else none
else none
end Go.Ev
