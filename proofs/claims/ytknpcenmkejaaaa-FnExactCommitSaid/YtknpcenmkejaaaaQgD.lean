/- Functions with the answers of the program's, written by a program of ours. -/
import Derived.Test.YtknpcenmkejaaaaQvG
set_option linter.all false
set_option maxHeartbeats 4000000
set_option linter.unusedVariables false
set_option maxRecDepth 100000
namespace Go.Ev
structure Ae where
  at_:Int
  data:List UInt8
  deriving Inhabited,DecidableEq
def Zv (x:Ae):Prop:=ok64 x.at_∧(okL dO) x.data
def Ax (x:Ae):List V:=[.int .i64 x.at_,.lst 1 (x.data.map By)]
structure Ap where
  held:List UInt8
  Aj:List Ae
  deriving Inhabited,DecidableEq
def Tg (x:Ap):Prop:=(okL dO) x.held∧(okL Zv) x.Aj
def Ah (x:Ap):List V:=[.lst 1 (x.held.map By),.lst 2 (x.Aj.map Ax)]
structure Au where
  key:List UInt8
  value:List UInt8
  deriving Inhabited,DecidableEq
def okDPair (x:Au):Prop:=dP x.key∧dP x.value
def Ay (x:Au):List V:=[.str x.key,.str x.value]
structure Ab where
  key:List UInt8
  value:List UInt8
  Dm:Bool
  deriving Inhabited,DecidableEq
def Tf (x:Ab):Prop:=dP x.key∧dP x.value∧dO x.Dm
def Af (x:Ab):List V:=[.str x.key,.str x.value,.bool x.Dm]
noncomputable def lG (a0:List UInt8) (a1:Int):Option Int:=
if (decide ((IntKind.i64.wrap (a1-(a0.length:Int)))<0))=true then
some (-1)
else
some (IntKind.i64.wrap (a1-(a0.length:Int)))
noncomputable def g345 (a0:Ae) (a1:Int):Option Int:=
(lG a0.data a1).bind fun r1=>
if (decide (r1<0))=true then
some (-1)
else
some r1
noncomputable def Qr (a0:List Ae) (s:Int×Int):Option ((Int×Int)⊕(Int⊕Int)):=
match s with
| (p8,p9)=>
if (decide (p9<(a0.length:Int)))=true then
(Ec a0 p9).bind fun y20=>
(g345 y20 p8).bind fun r22=>
if (decide (r22<0))=true then
some (.inr (.inr (-1)))
else
some (.inl (r22,(IntKind.i64.wrap (p9+1))))
else
some (.inr (.inl p8))
noncomputable def g289 (a0:List Ae) (a1:Int):Option Int:=
if (decide ((IntKind.i64.wrap (a1-(a0.length:Int)))<0))=true then
some (-1)
else
(Bo (Qr a0) ((IntKind.i64.wrap (a1-(a0.length:Int))),0)).bind fun r25=>
(match r25 with
| .inl p18=>
some p18
| .inr q=>some q)
noncomputable def WE (a0:Ap) (a1:Int):Option Int:=
(lG a0.held a1).bind fun r1=>
if (decide (r1<0))=true then
some (-1)
else
(g289 a0.Aj r1).bind fun r4=>
if (decide (r4<0))=true then
some (-1)
else
some r4
noncomputable def Nu (a0:List UInt8) (s:(List UInt8)×Int):Option (((List UInt8)×Int)⊕((List UInt8))):=
match s with
| (p10,p11)=>
if (decide (p11<(a0.length:Int)))=true then
(Ec a0 p11).bind fun y23=>
(Ec p10 p11).bind fun y25=>
(p10[p11.toNat]?).bind fun y27=>
some (.inl ((p10.set p11.toNat y23),(IntKind.i64.wrap (p11+1))))
else
some (.inr p10)
noncomputable def sE (a0:List UInt8):Option (List UInt8):=
if 0≤(a0.length:Int) then
if (a0.length:Int)*1≤140737488355328 then
(Bo (Nu a0) ((List.replicate (a0.length:Int).toNat (0:UInt8)),0)).bind fun r29=>
(match r29 with
| p21=>
some p21)
else none
else none
noncomputable def sN (a0:Ae):Option Ae:=
(sE a0.data).bind fun r1=>
some (Ae.mk a0.at_ r1)
noncomputable def Qu (a0:List Ae) (s:(List Ae)×Int):Option (((List Ae)×Int)⊕((List Ae))):=
match s with
| (p14,p15)=>
if (decide (p15<(a0.length:Int)))=true then
(Ec a0 p15).bind fun y29=>
(sN y29).bind fun r31=>
(Ec p14 p15).bind fun y33=>
(p14[p15.toNat]?).bind fun y35=>
some (.inl ((p14.set p15.toNat r31),(IntKind.i64.wrap (p15+1))))
else
some (.inr p14)
noncomputable def WP (a0:List Ae):Option (List Ae):=
if 0≤(a0.length:Int) then
if (a0.length:Int)*32≤140737488355328 then
Bi (List.replicate (a0.length:Int).toNat (Ae.mk 0 ([]:List UInt8))) fun v3=>
(Bo (Qu a0) (v3,0)).bind fun r37=>
(match r37 with
| p27=>
some p27)
else none
else none
noncomputable def fE (a0:Ap):Option Ap:=
(sE a0.held).bind fun r1=>
(WP a0.Aj).bind fun r3=>
some (Ap.mk r1 r3)
noncomputable def Qp (a0:List UInt8) (a1:List UInt8) (s:Int):Option ((Int)⊕(Unit⊕Bool)):=
match s with
| p8=>
if (decide (p8<(a0.length:Int)))=true then
(Ec a0 p8).bind fun y17=>
(Ec a1 p8).bind fun y19=>
if (((y17).toNat:Int) != ((y19).toNat:Int))=true then
some (.inr (.inr false))
else
some (.inl (IntKind.i64.wrap (p8+1)))
else
some (.inr (.inl ()))
noncomputable def sF (a0:List UInt8) (a1:List UInt8):Option Bool:=
if ((a0.length:Int) != (a1.length:Int))=true then
some false
else
(Bo (Qp a0 a1) 0).bind fun r22=>
(match r22 with
| .inl ()=>
some true
| .inr q=>some q)
noncomputable def sO (a0:Ae) (a1:Ae):Option Bool:=
if (a0.at_ != a1.at_)=true then
some false
else
(sF a0.data a1.data).bind fun r2=>
if (!r2)=true then
some false
else
some true
noncomputable def Qw (a0:List Ae) (a1:List Ae) (s:Int):Option ((Int)⊕(Unit⊕Bool)):=
match s with
| p10=>
if (decide (p10<(a0.length:Int)))=true then
(Ec a0 p10).bind fun y21=>
(Ec a1 p10).bind fun y23=>
(sO y21 y23).bind fun r25=>
if (!r25)=true then
some (.inr (.inr false))
else
some (.inl (IntKind.i64.wrap (p10+1)))
else
some (.inr (.inl ()))
noncomputable def WR (a0:List Ae) (a1:List Ae):Option Bool:=
if ((a0.length:Int) != (a1.length:Int))=true then
some false
else
(Bo (Qw a0 a1) 0).bind fun r28=>
(match r28 with
| .inl ()=>
some true
| .inr q=>some q)
noncomputable def fG (a0:Ap) (a1:Ap):Option Bool:=
(sF a0.held a1.held).bind fun r1=>
if (!r1)=true then
some false
else
(WR a0.Aj a1.Aj).bind fun r4=>
if (!r4)=true then
some false
else
some true
noncomputable def Qq  (s:(List UInt8)×Int×Int):Option (((List UInt8)×Int×Int)⊕((List UInt8)×Int)):=
match s with
| (p6,p7,p8)=>
if (decide (p8<(p6.length:Int)))=true then
(Ec p6 p8).bind fun y20=>
(p6[p8.toNat]?).bind fun y22=>
some (.inl ((p6.set p8.toNat (b8 p7)),(IntKind.i64.wrap (p7+1)),(IntKind.i64.wrap (p8+1))))
else
some (.inr (p6,p7))
noncomputable def sH (a0:List UInt8) (a1:Int):Option (Int×(List UInt8)):=
(Bo (Qq) (a0,a1,0)).bind fun r24=>
(match r24 with
| (p17,p18)=>
some (p18,p17))
noncomputable def Nw  (s:(List Ae)×Int×Int):Option (((List Ae)×Int×Int)⊕((List Ae)×Int)):=
match s with
| (p15,p16,p17)=>
if (decide (p17<(p15.length:Int)))=true then
(Ec p15 p17).bind fun y38=>
(p15[p17.toNat]?).bind fun y40=>
(Ec (p15.set p17.toNat (Ae.mk p16 y40.data)) p17).bind fun y42=>
((p15.set p17.toNat (Ae.mk p16 y40.data))[p17.toNat]?).bind fun y44=>
(sH y44.data (IntKind.i64.wrap (p16+1))).bind fun r46=>
if r46.2.length=y44.data.length then
Bi ((p15.set p17.toNat (Ae.mk p16 y40.data)).set p17.toNat (Ae.mk y44.at_ r46.2)) fun v49=>
some (.inl (v49,r46.1,(IntKind.i64.wrap (p17+1))))
else none
else
some (.inr (p15,p16))
noncomputable def WS (a0:List Ae) (a1:Int):Option (Int×(List Ae)):=
(Bo (Nw) (a0,a1,0)).bind fun r51=>
(match r51 with
| (p35,p36)=>
some (p36,p35))
noncomputable def sG (a0:Ap) (a1:Int):Option (Int×(List UInt8)×(List Ae)):=
(sH a0.held a1).bind fun r1=>
if r1.2.length=a0.held.length then
(WS a0.Aj r1.1).bind fun r4=>
if r4.2.length=a0.Aj.length then
some (r4.1,r1.2,r4.2)
else none
else none
noncomputable def Ny (a0:List UInt8) (s:Int×Int):Option ((Int×Int)⊕(Int⊕Int)):=
match s with
| (p5,p6)=>
if (decide (p6<(a0.length:Int)))=true then
(Ec a0 p6).bind fun y15=>
if (((y15).toNat:Int) != ((b8 p5).toNat:Int))=true then
some (.inr (.inr (-1)))
else
some (.inl ((IntKind.i64.wrap (p5+1)),(IntKind.i64.wrap (p6+1))))
else
some (.inr (.inl p5))
noncomputable def sL (a0:List UInt8) (a1:Int):Option Int:=
(Bo (Ny a0) (a1,0)).bind fun r18=>
(match r18 with
| .inl p13=>
some p13
| .inr q=>some q)
noncomputable def Nz (a0:List Ae) (s:Int×Int):Option ((Int×Int)⊕(Int⊕Int)):=
match s with
| (p10,p11)=>
if (decide (p11<(a0.length:Int)))=true then
(Ec a0 p11).bind fun y25=>
if (y25.at_ != p10)=true then
some (.inr (.inr (-1)))
else
(Ec a0 p11).bind fun y28=>
(sL y28.data (IntKind.i64.wrap (p10+1))).bind fun r30=>
if (decide (r30<0))=true then
some (.inr (.inr (-1)))
else
some (.inl (r30,(IntKind.i64.wrap (p11+1))))
else
some (.inr (.inl p10))
noncomputable def WU (a0:List Ae) (a1:Int):Option Int:=
(Bo (Nz a0) (a1,0)).bind fun r33=>
(match r33 with
| .inl p23=>
some p23
| .inr q=>some q)
noncomputable def sI (a0:Ap) (a1:Int):Option Int:=
(sL a0.held a1).bind fun r1=>
if (decide (r1<0))=true then
some (-1)
else
(WU a0.Aj r1).bind fun r4=>
if (decide (r4<0))=true then
some (-1)
else
some r4
noncomputable def WI (a0:List Ae):Option Bool:=
some (decide ((a0.length:Int)≤4096))
noncomputable def iW (a0:List Ae) (is1:Ae→Option Bool) (s:Int):Option ((Int)⊕(Unit⊕Int)):=
match s with
| p7=>
if (decide (p7<(a0.length:Int)))=true then
(Ec a0 p7).bind fun y16=>
(is1 y16).bind fun r18=>
if r18=true then
some (.inr (.inr p7))
else
some (.inl (IntKind.i64.wrap (p7+1)))
else
some (.inr (.inl ()))
noncomputable def g367 (a0:List Ae) (is1:Ae→Option Bool):Option Int:=
(Bo (iW a0 is1) 0).bind fun r21=>
(match r21 with
| .inl ()=>
some (-1)
| .inr q=>some q)
noncomputable def XC (a0:List Ae) (is1:Ae→Option Bool):Option Bool:=
(g367 a0 is1).bind fun r1=>
some (decide (r1≥0))
noncomputable def XE (a0:Ae) (is1:Ae→Option Bool):Option Bool:=
(is1 a0).bind fun r1=>
some (!r1)
noncomputable def WJ (a0:List Ae) (is1:Ae→Option Bool):Option Bool:=
(XC a0 (fun z330_0=>XE z330_0 is1)).bind fun r1=>
some (!r1)
noncomputable def mZ (a0:Int) (a1:Int) (a2:Int):Option Bool:=
some (bif (decide (a1≤a0)) then (decide (a0≤a2)) else false)
noncomputable def lD (a0:Ae):Option Bool:=
(mZ a0.at_ 0 127).bind fun r1=>
some (bif r1 then ((a0.data.length:Int)==32) else false)
noncomputable def WC (a0:Ap):Option Bool:=
(if ((bif ((((a0.held.length:Int)).tmod 32)==0) then (decide ((a0.held.length:Int)≤4096)) else false)==true)=true then WI a0.Aj else some default).bind fun r1=>
(if ((bif (bif ((((a0.held.length:Int)).tmod 32)==0) then (decide ((a0.held.length:Int)≤4096)) else false) then r1 else false)==true)=true then WJ a0.Aj (fun z271_0=>lD z271_0) else some default).bind fun r3=>
Bi ((bif (bif (bif ((((a0.held.length:Int)).tmod 32)==0) then (decide ((a0.held.length:Int)≤4096)) else false) then r1 else false) then r3 else false)) fun v5=>
some v5
def cY (a0:List UInt8):Option (List UInt8):=if ([]:List UInt8).length+a0.length≤140737488355328 then some a0 else none
noncomputable def Qy (a1:Ae) (p6:List UInt8):Option (List UInt8):=
(Jr p6 (IntKind.i64.wrap (32*a1.at_)) (p6.length:Int)).bind fun s7=>
Bi (ovl p6 ((IntKind.i64.wrap (32*a1.at_)).toNat) (a1.data.take s7.length)) fun v9=>
some v9
noncomputable def WX (a0:List UInt8) (a1:Ae):Option (List UInt8):=
Bi ((decide ((a0.length:Int)<(IntKind.i64.wrap (32*(IntKind.i64.wrap (a1.at_+1))))))) fun v1=>
if v1=true then
if 0≤(IntKind.i64.wrap ((IntKind.i64.wrap (32*(IntKind.i64.wrap (a1.at_+1))))-(a0.length:Int))) then
if ((a0.length:Int)+(IntKind.i64.wrap ((IntKind.i64.wrap (32*(IntKind.i64.wrap (a1.at_+1))))-(a0.length:Int))))*1≤140737488355328 then
Qy a1 (a0++List.replicate (IntKind.i64.wrap ((IntKind.i64.wrap (32*(IntKind.i64.wrap (a1.at_+1))))-(a0.length:Int))).toNat (0:UInt8))
else none
else none
else
Qy a1 a0
noncomputable def Jz (a0:Ap) (s:(List UInt8)×Int):Option (((List UInt8)×Int)⊕((List UInt8))):=
match s with
| (p8,p9)=>
if (decide (p9<(a0.Aj.length:Int)))=true then
(Ec a0.Aj p9).bind fun y19=>
(WX p8 y19).bind fun r21=>
some (.inl (r21,(IntKind.i64.wrap (p9+1))))
else
some (.inr p8)
noncomputable def aY (a0:Ap):Option (List UInt8):=
(cY a0.held).bind fun r1=>
(Bo (Jz a0) (r1,0)).bind fun r23=>
(match r23 with
| p17=>
some p17)
noncomputable def g267 (a0:Ap):Option Ap:=
(aY a0).bind fun r1=>
some (Ap.mk r1 ([]:List Ae))
noncomputable def Ob (a0:Int) (a1:Int) (s:(List UInt8)×Int):Option (((List UInt8)×Int)⊕((List UInt8))):=
match s with
| (p9,p10)=>
if (decide (p10<((List.replicate a1.toNat (0:UInt8)).length:Int)))=true then
if 0≤(IntKind.i64.wrap (8*p10)) then
(Ec p9 (IntKind.i64.wrap ((IntKind.i64.wrap (a1-1))-p10))).bind fun y22=>
(p9[(IntKind.i64.wrap ((IntKind.i64.wrap (a1-1))-p10)).toNat]?).bind fun y24=>
some (.inl ((p9.set ((IntKind.i64.wrap ((IntKind.i64.wrap (a1-1))-p10)).toNat) (b8 (Rp .i64 a0 (IntKind.i64.wrap (8*p10))))),(IntKind.i64.wrap (p10+1))))
else none
else
some (.inr p9)
noncomputable def bA (a0:Int) (a1:Int):Option (List UInt8):=
if 0≤a1 then
if a1*1≤140737488355328 then
(Bo (Ob a0 a1) ((List.replicate a1.toNat (0:UInt8)),0)).bind fun r26=>
(match r26 with
| p19=>
some p19)
else none
else none
noncomputable def Vc (p49:Int) (p58:Int):Option ((Int×Int)⊕(Int)):=
some (.inl (p58,(IntKind.i64.wrap (p49+1))))
noncomputable def Od  (s:Int×Int):Option ((Int×Int)⊕(Int)):=
match s with
| (p48,p49)=>
if (decide (p49<8))=true then
if ((lP .u32 p48 1)==1)=true then
Vc p49 (Um .u32 (Rp .u32 p48 1) 3988292384)
else
Vc p49 (Rp .u32 p48 1)
else
some (.inr p48)
noncomputable def Oc (a0:List UInt8) (s:Int×Int):Option ((Int×Int)⊕(Int)):=
match s with
| (p19,p20)=>
if (decide (p20<(a0.length:Int)))=true then
(Ec a0 p20).bind fun y41=>
(Bo (Od) ((Um .u32 p19 (IntKind.u32.wrap ((y41).toNat:Int))),0)).bind fun r61=>
(match r61 with
| p55=>
some (.inl (p55,(IntKind.i64.wrap (p20+1)))))
else
some (.inr p19)
noncomputable def sM (a0:List UInt8):Option Int:=
(Bo (Oc a0) (4294967295,0)).bind fun r63=>
(match r63 with
| p39=>
some (IntKind.i64.wrap (inot .u32 p39)))
noncomputable def WM (a0:List UInt8):Option (List UInt8):=
(bA (IntKind.i64.wrap ((a0.length:Int)+1)) 2).bind fun r1=>
if (r1.length+a0.length)*1≤140737488355328 then
(sM (r1++a0)).bind fun r4=>
(bA r4 4).bind fun r6=>
if ((r1++a0).length+r6.length)*1≤140737488355328 then
some ((r1++a0)++r6)
else none
else none
noncomputable def Oe (a0:List UInt8) (s:Int×Int):Option ((Int×Int)⊕(Int)):=
match s with
| (p4,p5)=>
if (decide (p5<(a0.length:Int)))=true then
(Ec a0 p5).bind fun y13=>
some (.inl ((ior .i64 (YR .i64 p4 8) (IntKind.i64.wrap ((y13).toNat:Int))),(IntKind.i64.wrap (p5+1))))
else
some (.inr p4)
noncomputable def fN (a0:List UInt8):Option Int:=
(Bo (Oe a0) (0,0)).bind fun r15=>
(match r15 with
| p11=>
some p11)
noncomputable def Ik (a0:List UInt8) (s:(List (List UInt8))×Int):Option (((List (List UInt8))×Int)⊕((List (List UInt8))×Int)):=
match s with
| (p26,p27)=>
if (decide ((IntKind.i64.wrap (p27+2))≤(a0.length:Int)))=true then
(Jr a0 p27 (IntKind.i64.wrap (p27+2))).bind fun s58=>
(fN s58).bind fun r60=>
Bi (IntKind.i64.wrap ((IntKind.i64.wrap (p27+2))+(IntKind.i64.wrap (r60-1)))) fun v62=>
(mZ (IntKind.i64.wrap (r60-1)) 0 2000).bind fun r64=>
(if ((bif (!r64) then true else (decide ((IntKind.i64.wrap (v62+4))>(a0.length:Int))))==false)=true then Jr a0 p27 v62 else some default).bind fun s66=>
(if ((bif (!r64) then true else (decide ((IntKind.i64.wrap (v62+4))>(a0.length:Int))))==false)=true then Jr a0 v62 (IntKind.i64.wrap (v62+4)) else some default).bind fun s68=>
(if ((bif (!r64) then true else (decide ((IntKind.i64.wrap (v62+4))>(a0.length:Int))))==false)=true then sM s66 else some default).bind fun r70=>
(if ((bif (!r64) then true else (decide ((IntKind.i64.wrap (v62+4))>(a0.length:Int))))==false)=true then fN s68 else some default).bind fun r72=>
Bi ((bif (bif (!r64) then true else (decide ((IntKind.i64.wrap (v62+4))>(a0.length:Int)))) then true else (r70 != r72))) fun v74=>
if v74=true then
some (.inr (p26,p27))
else
(Jr a0 (IntKind.i64.wrap (p27+2)) v62).bind fun s77=>
(cY s77).bind fun r79=>
if (p26.length+([r79]:List (List UInt8)).length)*24≤140737488355328 then
some (.inl ((p26++([r79]:List (List UInt8))),(IntKind.i64.wrap (v62+4))))
else none
else
some (.inr (p26,p27))
noncomputable def aZ (a0:List UInt8):Option ((List (List UInt8))×Int):=
(Bo (Ik a0) ([],0)).bind fun r82=>
(match r82 with
| (p55,p56)=>
some (p55,p56))
noncomputable def WY (a0:Int) (a1:Int):Option Bool:=
(mZ a0 0 4096).bind fun r1=>
Bi ((bif r1 then (decide ((IntKind.i64.wrap (a0+a1))≤4096)) else false)) fun v3=>
some v3
noncomputable def Oh (a0:Ap) (s:Int×(List Ae)):Option ((Int×(List Ae))⊕((List Ae))):=
match s with
| (p9,p10)=>
if (decide (p9<(a0.Aj.length:Int)))=true then
(Ec a0.Aj p9).bind fun y21=>
(cY y21.data).bind fun r23=>
if (p10.length+([(Ae.mk y21.at_ r23)]:List Ae).length)*32≤140737488355328 then
some (.inl ((IntKind.i64.wrap (p9+1)),(p10++([(Ae.mk y21.at_ r23)]:List Ae))))
else none
else
some (.inr p10)
noncomputable def XL (a0:Ap):Option Ap:=
(cY a0.held).bind fun r1=>
(Bo (Oh a0) (0,([]:List Ae))).bind fun r26=>
(match r26 with
| p19=>
some (Ap.mk r1 p19))
noncomputable def Ra (a1:Int) (a2:List UInt8) (v6:Int) (p13:List UInt8) (s14:List UInt8) (s:Int×(List Ae)):Option ((Int×(List Ae))⊕((List Ae))):=
match s with
| (p24,p25)=>
if (decide (p24≤v6))=true then
(Jr (ovl p13 a1.toNat (a2.take s14.length)) (IntKind.i64.wrap (32*p24)) (IntKind.i64.wrap (32*(IntKind.i64.wrap (p24+1))))).bind fun s36=>
(cY s36).bind fun r38=>
if (p25.length+([(Ae.mk p24 r38)]:List Ae).length)*32≤140737488355328 then
some (.inl ((IntKind.i64.wrap (p24+1)),(p25++([(Ae.mk p24 r38)]:List Ae))))
else none
else
some (.inr p25)
noncomputable def Qz (a1:Int) (a2:List UInt8) (r1:Ap) (v6:Int) (p13:List UInt8):Option Ap:=
(Jr p13 a1 (p13.length:Int)).bind fun s14=>
(Bo (Ra a1 a2 v6 p13 s14) ((IntKind.i64.wrap ((a1).tdiv 32)),r1.Aj)).bind fun r41=>
(match r41 with
| p34=>
some (Ap.mk r1.held p34))
noncomputable def WZ (a0:Ap) (a1:Int) (a2:List UInt8):Option Ap:=
(XL a0).bind fun r1=>
if ((a2.length:Int)==0)=true then
some r1
else
(aY a0).bind fun r4=>
Bi (IntKind.i64.wrap (((IntKind.i64.wrap ((IntKind.i64.wrap (a1+(a2.length:Int)))-1))).tdiv 32)) fun v6=>
Bi ((decide ((r4.length:Int)<(IntKind.i64.wrap (32*(IntKind.i64.wrap (v6+1))))))) fun v8=>
if v8=true then
if 0≤(IntKind.i64.wrap ((IntKind.i64.wrap (32*(IntKind.i64.wrap (v6+1))))-(r4.length:Int))) then
if ((r4.length:Int)+(IntKind.i64.wrap ((IntKind.i64.wrap (32*(IntKind.i64.wrap (v6+1))))-(r4.length:Int))))*1≤140737488355328 then
Qz a1 a2 r1 v6 (r4++List.replicate (IntKind.i64.wrap ((IntKind.i64.wrap (32*(IntKind.i64.wrap (v6+1))))-(r4.length:Int))).toNat (0:UInt8))
else none
else none
else
Qz a1 a2 r1 v6 r4
noncomputable def lE (a0:Ap) (a1:List UInt8):Option (Ap×Int):=
if (decide ((a1.length:Int)>2000))=true then
some ((Ap.mk ([]:List UInt8) ([]:List Ae)),4)
else
(aY a0).bind fun r2=>
(aZ r2).bind fun r4=>
(WM a1).bind fun r6=>
(WY r4.2 (r6.length:Int)).bind fun r8=>
if (!r8)=true then
some ((Ap.mk ([]:List UInt8) ([]:List Ae)),9)
else
(WZ a0 r4.2 r6).bind fun r11=>
(g267 r11).bind fun r13=>
some (r13,0)
noncomputable def g393 (a0:List Ab):Option Bool:=
some (decide ((a0.length:Int)≤4096))
noncomputable def jA (a0:List Ab) (is1:Ab→Option Bool) (s:Int):Option ((Int)⊕(Unit⊕Int)):=
match s with
| p7=>
if (decide (p7<(a0.length:Int)))=true then
(Ec a0 p7).bind fun y16=>
(is1 y16).bind fun r18=>
if r18=true then
some (.inr (.inr p7))
else
some (.inl (IntKind.i64.wrap (p7+1)))
else
some (.inr (.inl ()))
noncomputable def g429 (a0:List Ab) (is1:Ab→Option Bool):Option Int:=
(Bo (jA a0 is1) 0).bind fun r21=>
(match r21 with
| .inl ()=>
some (-1)
| .inr q=>some q)
noncomputable def YK (a0:List Ab) (is1:Ab→Option Bool):Option Bool:=
(g429 a0 is1).bind fun r1=>
some (decide (r1≥0))
noncomputable def YM (a0:Ab) (is1:Ab→Option Bool):Option Bool:=
(is1 a0).bind fun r1=>
some (!r1)
noncomputable def YE (a0:List Ab) (is1:Ab→Option Bool):Option Bool:=
(YK a0 (fun z425_0=>YM z425_0 is1)).bind fun r1=>
some (!r1)
noncomputable def g362 (a0:List UInt8):Option Bool:=
(mZ (a0.length:Int) 1 60).bind fun r1=>
some r1
noncomputable def fR (a0:Ab):Option Bool:=
(g362 a0.key).bind fun r1=>
Bi ((bif (bif r1 then (decide ((a0.value.length:Int)≤400)) else false) then (bif (!a0.Dm) then true else (a0.value==([]:List UInt8))) else false)) fun v3=>
some v3
noncomputable def XT (a0:List Ab):Option Bool:=
(if ((decide ((a0.length:Int)≤30))==true)=true then YE a0 (fun z414_0=>fR z414_0) else some default).bind fun r1=>
some (bif (decide ((a0.length:Int)≤30)) then r1 else false)
noncomputable def Rg (p14:List UInt8) (p15:Int) (y33:Ab) (p38:Int):Option (((List UInt8)×Int)⊕((List UInt8))):=
(bA p38 2).bind fun r39=>
if (((p14++([b8 (y33.key.length:Int)]:List UInt8))++y33.key).length+r39.length)*1≤140737488355328 then
if ((((p14++([b8 (y33.key.length:Int)]:List UInt8))++y33.key)++r39).length+y33.value.length)*1≤140737488355328 then
Bi ((((p14++([b8 (y33.key.length:Int)]:List UInt8))++y33.key)++r39)++y33.value) fun v43=>
some (.inl (v43,(IntKind.i64.wrap (p15+1))))
else none
else none
noncomputable def Ve (a0:List Ab) (s:(List UInt8)×Int):Option (((List UInt8)×Int)⊕((List UInt8))):=
match s with
| (p14,p15)=>
if (decide (p15<(a0.length:Int)))=true then
(Ec a0 p15).bind fun y33=>
if (p14.length+([b8 (y33.key.length:Int)]:List UInt8).length)*1≤140737488355328 then
if ((p14++([b8 (y33.key.length:Int)]:List UInt8)).length+y33.key.length)*1≤140737488355328 then
if y33.Dm=true then
Rg p14 p15 y33 0
else
Rg p14 p15 y33 (IntKind.i64.wrap ((y33.value.length:Int)+1))
else none
else none
else
some (.inr p14)
noncomputable def XU (a0:List Ab):Option (List UInt8):=
(Bo (Ve a0) ([],0)).bind fun r47=>
(match r47 with
| p31=>
some p31)
def XY (a0:List Au):Option (List Au):=if ([]:List Au).length+a0.length≤4398046511104 then some a0 else none
noncomputable def Vi (a0:List Au) (a1:List UInt8) (is2:Au→(List UInt8)→Option Int) (s:Int×Int):Option ((Int×Int)⊕(Int)):=
match s with
| (p9,p10)=>
if (decide (p9<p10))=true then
Bi (IntKind.i64.wrap (Rp .u64 (IntKind.u64.wrap (IntKind.i64.wrap (p9+p10))) 1)) fun v23=>
(Ec a0 v23).bind fun y25=>
(is2 y25 a1).bind fun r27=>
if (decide (r27<0))=true then
some (.inl ((IntKind.i64.wrap (v23+1)),p10))
else
some (.inl (p9,v23))
else
some (.inr p9)
noncomputable def YG (a0:List Au) (a1:List UInt8) (is2:Au→(List UInt8)→Option Int):Option (Int×Bool):=
(Bo (Vi a0 a1 is2) (0,(a0.length:Int))).bind fun r30=>
(match r30 with
| p21=>
(if ((decide (p21<(a0.length:Int)))==true)=true then Ec a0 p21 else some default).bind fun y32=>
(if ((decide (p21<(a0.length:Int)))==true)=true then is2 y32 a1 else some default).bind fun r34=>
some (p21,(bif (decide (p21<(a0.length:Int))) then (r34==0) else false)))
noncomputable def g427 (a0:List UInt8) (a1:List UInt8):Option Int:=
some (Yj a0 a1)
noncomputable def g418 (a0:List UInt8) (a1:List UInt8):Option Int:=
(g427 a0 a1).bind fun r1=>
some r1
noncomputable def fW (a0:Au) (a1:List UInt8):Option Int:=
(g418 a0.key a1).bind fun r1=>
some r1
def YI (a0:List Au) (a1:Int) (a2:Int):Option (List Au):=if (0≤a1∧a1≤a2∧a2≤(a0.length:Int))∧a0.length≤4398046511104 then some (a0.take a1.toNat++a0.drop a2.toNat) else none
def YJ (a0:List Au) (a1:Int) (a2:List Au):Option ((List Au)×(List Au)):=if (0≤a1∧a1≤(a0.length:Int))∧0<a2.length∧a0.length+a2.length≤4398046511104 then some (a0.take a1.toNat++a2++a0.drop a1.toNat,a2) else none
noncomputable def Vf (p18:Int) (p49:List Au):Option (((List Au)×Int)⊕((List Au))):=
some (.inl (p49,(IntKind.i64.wrap (p18+1))))
noncomputable def Rh (p18:Int) (y51:Ab) (r53:Int×Bool) (p58:List Au):Option (((List Au)×Int)⊕((List Au))):=
if (!y51.Dm)=true then
(YJ p58 r53.1 ([(Au.mk y51.key y51.value)]:List Au)).bind fun r60=>
if r60.2.length=([(Au.mk y51.key y51.value)]:List Au).length then
Vf p18 r60.1
else none
else
Vf p18 p58
noncomputable def Oi (a1:List Ab) (s:(List Au)×Int):Option (((List Au)×Int)⊕((List Au))):=
match s with
| (p17,p18)=>
if (decide (p18<(a1.length:Int)))=true then
(Ec a1 p18).bind fun y51=>
(YG p17 y51.key (fun z417_0 z417_1=>fW z417_0 z417_1)).bind fun r53=>
if r53.2=true then
(YI p17 r53.1 (IntKind.i64.wrap (r53.1+1))).bind fun r65=>
Rh p18 y51 r53 r65
else
Rh p18 y51 r53 p17
else
some (.inr p17)
noncomputable def sR (a0:List Au) (a1:List Ab):Option ((List Au)×Bool):=
(XY a0).bind fun r1=>
(Bo (Oi a1) (r1,0)).bind fun r67=>
(match r67 with
| p35=>
some (p35,(decide ((p35.length:Int)≤100))))
noncomputable def Wq (a0:List UInt8) (a1:Int):Option ((List UInt8)×(List UInt8)×Bool):=
if (decide (a1>(a0.length:Int)))=true then
some ([],[],false)
else
(Jr a0 0 a1).bind fun s2=>
(Jr a0 a1 (a0.length:Int)).bind fun s4=>
some (s2,s4,true)
noncomputable def dA (a0:List UInt8):Option (Ab×(List UInt8)×Bool):=
(Jr a0 1 (a0.length:Int)).bind fun s1=>
(Ec a0 0).bind fun y3=>
(Wq s1 (IntKind.i64.wrap ((y3).toNat:Int))).bind fun r5=>
if (!r5.2.2)=true then
some ((Ab.mk ([]:List UInt8) ([]:List UInt8) false),[],false)
else
(Wq r5.2.1 2).bind fun r8=>
if (!r8.2.2)=true then
some ((Ab.mk ([]:List UInt8) ([]:List UInt8) false),[],false)
else
(fN r8.1).bind fun r11=>
(Wq r8.2.1 (if 0>(IntKind.i64.wrap (r11-1)) then 0 else (IntKind.i64.wrap (r11-1)))).bind fun r13=>
some ((Ab.mk r5.1 r13.1 (r11==0)),r13.2.1,r13.2.2)
noncomputable def Hb  (s:(List UInt8)×(List Ab)):Option (((List UInt8)×(List Ab))⊕((List Ab)⊕((List Ab)×Bool))):=
match s with
| (p10,p11)=>
if (decide ((p10.length:Int)>0))=true then
(dA p10).bind fun r25=>
(if ((bif (!r25.2.2) then true else ((p11.length:Int)==30))==false)=true then fR r25.1 else some default).bind fun r27=>
Bi ((bif (bif (!r25.2.2) then true else ((p11.length:Int)==30)) then true else (!r27))) fun v29=>
if v29=true then
some (.inr (.inr ([],false)))
else
if (p11.length+([r25.1]:List Ab).length)*40≤140737488355328 then
some (.inl (r25.2.1,(p11++([r25.1]:List Ab))))
else none
else
some (.inr (.inl p11))
noncomputable def fQ (a0:List UInt8):Option ((List Ab)×Bool):=
(Bo (Hb) (a0,[])).bind fun r33=>
(match r33 with
| .inl p23=>
some (p23,true)
| .inr q=>some q)
noncomputable def Li (r3:(List (List UInt8))×Int) (s:(List Au)×Int):Option (((List Au)×Int)⊕((List Au))):=
match s with
| (p16,p17)=>
if (decide (p17<(r3.1.length:Int)))=true then
(Ec r3.1 p17).bind fun y33=>
(r3.1[p17.toNat]?).bind fun y35=>
(fQ y35).bind fun r37=>
if (!r37.2)=true then
some (.inr p16)
else
(sR p16 r37.1).bind fun r40=>
if (!r40.2)=true then
some (.inr p16)
else
some (.inl (r40.1,(IntKind.i64.wrap (p17+1))))
else
some (.inr p16)
noncomputable def XW (a0:Ap):Option (List Au):=
(aY a0).bind fun r1=>
(aZ r1).bind fun r3=>
(Bo (Li r3) ([],0)).bind fun r43=>
(match r43 with
| p31=>
some p31)
noncomputable def sQ (a0:Ap) (a1:List Ab):Option (Ap×Int):=
(g393 a1).bind fun r1=>
if (!r1)=true then
some ((Ap.mk ([]:List UInt8) ([]:List Ae)),2)
else
(WC a0).bind fun r4=>
(if ((!r4)==false)=true then XT a1 else some default).bind fun r6=>
if (bif (!r4) then true else (!r6))=true then
some ((Ap.mk ([]:List UInt8) ([]:List Ae)),1)
else
(XW a0).bind fun r9=>
(sR r9 a1).bind fun r11=>
if (!r11.2)=true then
some ((Ap.mk ([]:List UInt8) ([]:List Ae)),9)
else
(XU a1).bind fun r14=>
(lE a0 r14).bind fun r16=>
some (r16.1,r16.2)
noncomputable def g406 (a0:Ab) (a1:Int):Option Int:=
if (decide ((IntKind.i64.wrap (a1-(a0.key.length:Int)))<0))=true then
some (-1)
else
Bi (IntKind.i64.wrap ((IntKind.i64.wrap (a1-(a0.key.length:Int)))-(a0.value.length:Int))) fun v2=>
if (decide (v2<0))=true then
some (-1)
else
some v2
noncomputable def Rc (a0:List Ab) (s:Int×Int):Option ((Int×Int)⊕(Int⊕Int)):=
match s with
| (p8,p9)=>
if (decide (p9<(a0.length:Int)))=true then
(Ec a0 p9).bind fun y20=>
(g406 y20 p8).bind fun r22=>
if (decide (r22<0))=true then
some (.inr (.inr (-1)))
else
some (.inl (r22,(IntKind.i64.wrap (p9+1))))
else
some (.inr (.inl p8))
noncomputable def XO (a0:List Ab) (a1:Int):Option Int:=
if (decide ((IntKind.i64.wrap (a1-(a0.length:Int)))<0))=true then
some (-1)
else
(Bo (Rc a0) ((IntKind.i64.wrap (a1-(a0.length:Int))),0)).bind fun r25=>
(match r25 with
| .inl p18=>
some p18
| .inr q=>some q)
noncomputable def g56 (a0:Int) (a1:Int) (a2:Int):Option Bool:=
some (bif (decide (a0≥a1)) then (decide (a0≤a2)) else false)
noncomputable def Qs (a0:Ap) (s:Int):Option ((Int)⊕(Unit⊕Bool)):=
match s with
| p12=>
if (decide (p12<(a0.Aj.length:Int)))=true then
(Ec a0.Aj p12).bind fun y23=>
(g56 y23.at_ 0 127).bind fun r25=>
(if ((!r25)==false)=true then Ec a0.Aj p12 else some default).bind fun y27=>
if (bif (!r25) then true else ((y27.data.length:Int) != 32))=true then
some (.inr (.inr false))
else
some (.inl (IntKind.i64.wrap (p12+1)))
else
some (.inr (.inl ()))
noncomputable def lH (a0:Ap):Option Bool:=
Bi ((bif (bif ((((a0.held.length:Int)).tmod 32) != 0) then true else (decide ((a0.held.length:Int)>4096))) then true else (decide ((a0.Aj.length:Int)>4096)))) fun v1=>
if v1=true then
some false
else
(Bo (Qs a0) 0).bind fun r30=>
(match r30 with
| .inl ()=>
some true
| .inr q=>some q)
noncomputable def sJ (a0:Int) (a1:Int):Option Bool:=
Bi ((bif (bif (decide (a0≥0)) then (decide (a1≤4096)) else false) then (decide (a0≤(IntKind.i64.wrap (4096-a1)))) else false)) fun v1=>
some v1
noncomputable def Rb (a1:Ae) (s:(List UInt8)):Option (((List UInt8))⊕((List UInt8))):=
match s with
| p7=>
Bi ((decide ((p7.length:Int)<(IntKind.i64.wrap ((IntKind.i64.wrap (a1.at_+1))*32))))) fun v15=>
if v15=true then
if 0≤(32:Int) then
if ((p7.length:Int)+(32:Int))*1≤140737488355328 then
some (.inl (p7++List.replicate (32:Int).toNat (0:UInt8)))
else none
else none
else
some (.inr p7)
noncomputable def XH (a0:List UInt8) (a1:Ae):Option (List UInt8):=
if (([]:List UInt8).length+a0.length)*1≤140737488355328 then
(Bo (Rb a1) (([]:List UInt8)++a0)).bind fun r20=>
(match r20 with
| p14=>
(Jr p14 (IntKind.i64.wrap (a1.at_*32)) (p14.length:Int)).bind fun s22=>
Bi (ovl p14 ((IntKind.i64.wrap (a1.at_*32)).toNat) (a1.data.take s22.length)) fun v24=>
some v24)
else none
noncomputable def Ka (a0:Ap) (s:(List UInt8)×Int):Option (((List UInt8)×Int)⊕((List UInt8))):=
match s with
| (p7,p8)=>
if (decide (p8<(a0.Aj.length:Int)))=true then
(Ec a0.Aj p8).bind fun y18=>
(XH p7 y18).bind fun r20=>
some (.inl (r20,(IntKind.i64.wrap (p8+1))))
else
some (.inr p7)
noncomputable def Wm (a0:Ap):Option (List UInt8):=
if (([]:List UInt8).length+a0.held.length)*1≤140737488355328 then
(Bo (Ka a0) ((([]:List UInt8)++a0.held),0)).bind fun r22=>
(match r22 with
| p16=>
some p16)
else none
noncomputable def Qt (a1:Int) (a2:List UInt8) (s:(List UInt8)):Option (((List UInt8))⊕((List UInt8))):=
match s with
| p7=>
Bi ((bif (decide ((p7.length:Int)<(IntKind.i64.wrap (a1+(a2.length:Int))))) then true else ((((p7.length:Int)).tmod 32) != 0))) fun v14=>
if v14=true then
if (p7.length+([(0:UInt8)]:List UInt8).length)*1≤140737488355328 then
some (.inl (p7++([(0:UInt8)]:List UInt8)))
else none
else
some (.inr p7)
noncomputable def Nv (a1:Int) (a2:List UInt8) (p13:List UInt8) (s20:List UInt8) (s:Int×(List Ae)):Option ((Int×(List Ae))⊕((List Ae))):=
match s with
| (p34,p35)=>
Bi ((decide ((IntKind.i64.wrap (p34*32))<(IntKind.i64.wrap (a1+(a2.length:Int)))))) fun v46=>
if v46=true then
(Jr (ovl p13 a1.toNat (a2.take s20.length)) (IntKind.i64.wrap (p34*32)) (IntKind.i64.wrap ((IntKind.i64.wrap (p34+1))*32))).bind fun s49=>
if (([]:List UInt8).length+s49.length)*1≤140737488355328 then
if (p35.length+([(Ae.mk p34 (([]:List UInt8)++s49))]:List Ae).length)*32≤140737488355328 then
some (.inl ((IntKind.i64.wrap (p34+1)),(p35++([(Ae.mk p34 (([]:List UInt8)++s49))]:List Ae))))
else none
else none
else
some (.inr p35)
noncomputable def sK (a0:Ap) (a1:Int) (a2:List UInt8):Option Ap:=
(Wm a0).bind fun r1=>
(Bo (Qt a1 a2) r1).bind fun r18=>
(match r18 with
| p13=>
(Jr p13 a1 (p13.length:Int)).bind fun s20=>
if (([]:List Ae).length+a0.Aj.length)*32≤140737488355328 then
if ((a2.length:Int)==0)=true then
some (Ap.mk a0.held (([]:List Ae)++a0.Aj))
else
(Bo (Nv a1 a2 p13 s20) ((IntKind.i64.wrap ((a1).tdiv 32)),(([]:List Ae)++a0.Aj))).bind fun r53=>
(match r53 with
| p45=>
some (Ap.mk a0.held p45))
else none)
noncomputable def Vd (p47:Int) (p56:Int):Option ((Int×Int)⊕(Int)):=
some (.inl (p56,(IntKind.i64.wrap (p47+1))))
noncomputable def Og  (s:Int×Int):Option ((Int×Int)⊕(Int)):=
match s with
| (p46,p47)=>
if (decide (p47<8))=true then
if (((p46).tmod 2)==1)=true then
Vd p47 (Um .i64 (IntKind.i64.wrap ((p46).tdiv 2)) 3988292384)
else
Vd p47 (IntKind.i64.wrap ((p46).tdiv 2))
else
some (.inr p46)
noncomputable def Of (a0:List UInt8) (s:Int×Int):Option ((Int×Int)⊕(Int)):=
match s with
| (p17,p18)=>
if (decide (p18<(a0.length:Int)))=true then
(Ec a0 p18).bind fun y39=>
(Bo (Og) ((Um .i64 p17 (IntKind.i64.wrap ((y39).toNat:Int))),0)).bind fun r59=>
(match r59 with
| p53=>
some (.inl (p53,(IntKind.i64.wrap (p18+1)))))
else
some (.inr p17)
noncomputable def XI (a0:List UInt8):Option Int:=
(Bo (Of a0) (4294967295,0)).bind fun r61=>
(match r61 with
| p37=>
some (Um .i64 p37 4294967295))
noncomputable def lJ (a0:List UInt8):Option (List UInt8):=
if (([b8 (IntKind.i64.wrap (((IntKind.i64.wrap ((a0.length:Int)+1))).tdiv 256)),b8 (((IntKind.i64.wrap ((a0.length:Int)+1))).tmod 256)]:List UInt8).length+a0.length)*1≤140737488355328 then
Bi (([b8 (IntKind.i64.wrap (((IntKind.i64.wrap ((a0.length:Int)+1))).tdiv 256)),b8 (((IntKind.i64.wrap ((a0.length:Int)+1))).tmod 256)]:List UInt8)++a0) fun v2=>
(XI v2).bind fun r4=>
if (v2.length+([b8 (IntKind.i64.wrap ((r4).tdiv 16777216)),b8 (((IntKind.i64.wrap ((r4).tdiv 65536))).tmod 256),b8 (((IntKind.i64.wrap ((r4).tdiv 256))).tmod 256),b8 ((r4).tmod 256)]:List UInt8).length)*1≤140737488355328 then
Bi (v2++([b8 (IntKind.i64.wrap ((r4).tdiv 16777216)),b8 (((IntKind.i64.wrap ((r4).tdiv 65536))).tmod 256),b8 (((IntKind.i64.wrap ((r4).tdiv 256))).tmod 256),b8 ((r4).tmod 256)]:List UInt8)) fun v7=>
some v7
else none
else none
noncomputable def Kb (a0:List UInt8) (a1:Int) (v6:Int) (r14:(List UInt8)) (s:Int):Option ((Int)⊕(Unit⊕((List UInt8)×Bool))):=
match s with
| p24=>
if (decide (p24<4))=true then
(Ec a0 (IntKind.i64.wrap ((IntKind.i64.wrap ((IntKind.i64.wrap (a1+2))+v6))+p24))).bind fun y35=>
(Ec r14 (IntKind.i64.wrap ((IntKind.i64.wrap (2+v6))+p24))).bind fun y37=>
(r14[(IntKind.i64.wrap ((IntKind.i64.wrap (2+v6))+p24)).toNat]?).bind fun y39=>
if (((y35).toNat:Int) != ((y39).toNat:Int))=true then
some (.inr (.inr (([]:List UInt8),false)))
else
some (.inl (IntKind.i64.wrap (p24+1)))
else
some (.inr (.inl ()))
noncomputable def XF (a0:List UInt8) (a1:Int):Option ((List UInt8)×Bool):=
if (decide ((IntKind.i64.wrap (a1+2))>(a0.length:Int)))=true then
some (([]:List UInt8),false)
else
(Ec a0 a1).bind fun y2=>
(Ec a0 (IntKind.i64.wrap (a1+1))).bind fun y4=>
Bi (IntKind.i64.wrap ((IntKind.i64.wrap ((IntKind.i64.wrap ((IntKind.i64.wrap ((y2).toNat:Int))*256))+(IntKind.i64.wrap ((y4).toNat:Int))))-1)) fun v6=>
Bi ((bif (bif (decide (v6<0)) then true else (decide (v6>2000))) then true else (decide ((IntKind.i64.wrap ((IntKind.i64.wrap (a1+v6))+6))>(a0.length:Int))))) fun v8=>
if v8=true then
some (([]:List UInt8),false)
else
(Jr a0 (IntKind.i64.wrap (a1+2)) (IntKind.i64.wrap ((IntKind.i64.wrap (a1+2))+v6))).bind fun s11=>
if (([]:List UInt8).length+s11.length)*1≤140737488355328 then
(lJ (([]:List UInt8)++s11)).bind fun r14=>
(Bo (Kb a0 a1 v6 r14) 0).bind fun r42=>
(match r42 with
| .inl ()=>
some (([]:List UInt8)++s11,true)
| .inr q=>some q)
else none
noncomputable def Qx (a0:List UInt8) (s:(List (List UInt8))×Int):Option (((List (List UInt8))×Int)⊕((List (List UInt8))×Int)):=
match s with
| (p5,p6)=>
(XF a0 p6).bind fun r13=>
if (!r13.2)=true then
some (.inr (p5,p6))
else
if (p5.length+([r13.1]:List (List UInt8)).length)*24≤140737488355328 then
some (.inl ((p5++([r13.1]:List (List UInt8))),(IntKind.i64.wrap (p6+(IntKind.i64.wrap ((r13.1.length:Int)+6))))))
else none
noncomputable def fJ (a0:List UInt8):Option ((List (List UInt8))×Int):=
(Bo (Qx a0) (([]:List (List UInt8)),0)).bind fun r17=>
(match r17 with
| q=>some q)
noncomputable def WF (a0:Ap) (a1:List UInt8):Option (Ap×Int):=
if (decide ((a1.length:Int)>65536))=true then
some ((Ap.mk ([]:List UInt8) ([]:List Ae)),2)
else
(lH a0).bind fun r2=>
if (!r2)=true then
some ((Ap.mk ([]:List UInt8) ([]:List Ae)),1)
else
if (decide ((a1.length:Int)>2000))=true then
some ((Ap.mk ([]:List UInt8) ([]:List Ae)),4)
else
(Wm a0).bind fun r6=>
(fJ r6).bind fun r8=>
(lJ a1).bind fun r10=>
(sJ r8.2 (r10.length:Int)).bind fun r12=>
if (!r12)=true then
some ((Ap.mk ([]:List UInt8) ([]:List Ae)),9)
else
(sK a0 r8.2 r10).bind fun r15=>
(Wm r15).bind fun r17=>
some ((Ap.mk r17 ([]:List Ae)),0)
noncomputable def g399 (a0:Ap):Option ((List (List UInt8))×Int):=
(lH a0).bind fun r1=>
if (!r1)=true then
some (([]:List (List UInt8)),1)
else
(Wm a0).bind fun r4=>
(fJ r4).bind fun r6=>
some (r6.1,0)
noncomputable def Rj (p41:List Au) (y86:Ab) (s:Int):Option ((Int)⊕(Int)):=
match s with
| p95=>
(if ((decide (p95<(p41.length:Int)))==true)=true then Ec p41 p95 else some default).bind fun y105=>
(if ((decide (p95<(p41.length:Int)))==true)=true then p41[p95.toNat]? else some default).bind fun y107=>
Bi ((bif (decide (p95<(p41.length:Int))) then (Op.bytesLess y107.key y86.key) else false)) fun v109=>
if v109=true then
some (.inl (IntKind.i64.wrap (p95+1)))
else
some (.inr p95)
noncomputable def Vg (p42:Int) (p126:List Au) (p131:List Au):Option (((List Au)×Int)⊕((List Au))):=
if (p131.length+p126.length)*32≤140737488355328 then
some (.inl ((p131++p126),(IntKind.i64.wrap (p42+1))))
else none
noncomputable def Ri (p41:List Au) (p42:Int) (y86:Ab) (p104:Int) (p126:List Au):Option (((List Au)×Int)⊕((List Au))):=
(Jr p41 0 p104).bind fun s127=>
if (!y86.Dm)=true then
if (s127.length+([(Au.mk y86.key y86.value)]:List Au).length)*32≤140737488355328 then
Vg p42 p126 (s127++([(Au.mk y86.key y86.value)]:List Au))
else none
else
Vg p42 p126 s127
noncomputable def Ol (a1:List Ab) (s:(List Au)×Int):Option (((List Au)×Int)⊕((List Au))):=
match s with
| (p41,p42)=>
if (decide (p42<(a1.length:Int)))=true then
(Ec a1 p42).bind fun y86=>
(Bo (Rj p41 y86) 0).bind fun r112=>
(match r112 with
| p104=>
(Jr p41 p104 (p41.length:Int)).bind fun s114=>
if (([]:List Au).length+s114.length)*32≤140737488355328 then
(if ((decide (((([]:List Au)++s114).length:Int)>0))==true)=true then Ec (([]:List Au)++s114) 0 else some default).bind fun y117=>
(if ((decide (((([]:List Au)++s114).length:Int)>0))==true)=true then (([]:List Au)++s114)[(0:Int).toNat]? else some default).bind fun y119=>
Bi ((bif (decide (((([]:List Au)++s114).length:Int)>0)) then (y119.key==y86.key) else false)) fun v121=>
if v121=true then
(Jr (([]:List Au)++s114) 1 ((([]:List Au)++s114).length:Int)).bind fun s138=>
Ri p41 p42 y86 p104 s138
else
Ri p41 p42 y86 p104 (([]:List Au)++s114)
else none)
else
some (.inr p41)
noncomputable def sT (a0:List Au) (a1:List Ab):Option (List Au):=
if (([]:List Au).length+a0.length)*32≤140737488355328 then
(Bo (Ol a1) ((([]:List Au)++a0),0)).bind fun r140=>
(match r140 with
| p84=>
some p84)
else none
noncomputable def lL (a0:Ab):Option Bool:=
Bi ((bif (bif (bif (decide ((a0.key.length:Int)>0)) then (decide ((a0.key.length:Int)≤60)) else false) then (decide ((a0.value.length:Int)≤400)) else false) then (bif (!a0.Dm) then true else (a0.value==([]:List UInt8))) else false)) fun v1=>
some v1
noncomputable def Kc (a0:List Ab) (s:Int):Option ((Int)⊕(Unit⊕Bool)):=
match s with
| p8=>
if (decide (p8<(a0.length:Int)))=true then
(Ec a0 p8).bind fun y17=>
(lL y17).bind fun r19=>
if (!r19)=true then
some (.inr (.inr false))
else
some (.inl (IntKind.i64.wrap (p8+1)))
else
some (.inr (.inl ()))
noncomputable def cZ (a0:List Ab):Option Bool:=
if (decide ((a0.length:Int)>30))=true then
some false
else
(Bo (Kc a0) 0).bind fun r22=>
(match r22 with
| .inl ()=>
some true
| .inr q=>some q)
noncomputable def Rl (a0:List UInt8) (p26:List Ab) (s62:List UInt8) (v64:Int) (p73:Int) (p74:Bool):Option (((List Ab)×Int)⊕((List Ab)⊕((List Ab)×Bool))):=
Bi ((decide ((IntKind.i64.wrap ((IntKind.i64.wrap (v64+2))+p73))>(a0.length:Int)))) fun v75=>
if v75=true then
some (.inr (.inr (p26,false)))
else
(Jr a0 (IntKind.i64.wrap (v64+2)) (IntKind.i64.wrap ((IntKind.i64.wrap (v64+2))+p73))).bind fun s78=>
if (p26.length+([(Ab.mk s62 s78 p74)]:List Ab).length)*40≤140737488355328 then
some (.inl ((p26++([(Ab.mk s62 s78 p74)]:List Ab)),(IntKind.i64.wrap ((IntKind.i64.wrap (v64+2))+p73))))
else none
noncomputable def Dr (a0:List UInt8) (s:(List Ab)×Int):Option (((List Ab)×Int)⊕((List Ab)⊕((List Ab)×Bool))):=
match s with
| (p26,p27)=>
if (decide (p27<(a0.length:Int)))=true then
(Ec a0 p27).bind fun y57=>
Bi ((decide ((IntKind.i64.wrap ((IntKind.i64.wrap ((IntKind.i64.wrap (p27+1))+(IntKind.i64.wrap ((y57).toNat:Int))))+2))>(a0.length:Int)))) fun v59=>
if v59=true then
some (.inr (.inr (p26,false)))
else
(Jr a0 (IntKind.i64.wrap (p27+1)) (IntKind.i64.wrap ((IntKind.i64.wrap (p27+1))+(IntKind.i64.wrap ((y57).toNat:Int))))).bind fun s62=>
Bi (IntKind.i64.wrap (p27+(IntKind.i64.wrap (1+(IntKind.i64.wrap ((y57).toNat:Int)))))) fun v64=>
(Ec a0 v64).bind fun y66=>
(Ec a0 (IntKind.i64.wrap (v64+1))).bind fun y68=>
Bi (IntKind.i64.wrap ((IntKind.i64.wrap ((IntKind.i64.wrap ((IntKind.i64.wrap ((y66).toNat:Int))*256))+(IntKind.i64.wrap ((y68).toNat:Int))))-1)) fun v70=>
if (decide (v70<0))=true then
Rl a0 p26 s62 v64 0 true
else
Rl a0 p26 s62 v64 v70 false
else
some (.inr (.inl p26))
noncomputable def fX (a0:List UInt8):Option ((List Ab)×Bool):=
(Bo (Dr a0) (([]:List Ab),0)).bind fun r83=>
(match r83 with
| .inl p55=>
(cZ p55).bind fun r85=>
some (p55,r85)
| .inr q=>some q)
noncomputable def Oj (a0:List (List UInt8)) (s:(List Au)×Int):Option (((List Au)×Int)⊕((List Au))):=
match s with
| (p10,p11)=>
if (decide (p11<(a0.length:Int)))=true then
(Ec a0 p11).bind fun y25=>
(fX y25).bind fun r27=>
if (!r27.2)=true then
some (.inr p10)
else
(sT p10 r27.1).bind fun r30=>
if (decide ((r30.length:Int)>100))=true then
some (.inr p10)
else
some (.inl (r30,(IntKind.i64.wrap (p11+1))))
else
some (.inr p10)
noncomputable def XX (a0:List (List UInt8)):Option (List Au):=
(Bo (Oj a0) (([]:List Au),0)).bind fun r33=>
(match r33 with
| p23=>
some p23)
noncomputable def XN (a0:Ap):Option ((List Au)×Int):=
(g399 a0).bind fun r1=>
if (r1.2 != 0)=true then
some (([]:List Au),r1.2)
else
(XX r1.1).bind fun r4=>
some (r4,0)
noncomputable def Rk (p14:List UInt8) (p15:Int) (y31:Ab) (p36:Int):Option (((List UInt8)×Int)⊕((List UInt8))):=
if (((p14++([b8 (y31.key.length:Int)]:List UInt8))++y31.key).length+([b8 (IntKind.i64.wrap ((p36).tdiv 256)),b8 ((p36).tmod 256)]:List UInt8).length)*1≤140737488355328 then
if ((((p14++([b8 (y31.key.length:Int)]:List UInt8))++y31.key)++([b8 (IntKind.i64.wrap ((p36).tdiv 256)),b8 ((p36).tmod 256)]:List UInt8)).length+y31.value.length)*1≤140737488355328 then
Bi ((((p14++([b8 (y31.key.length:Int)]:List UInt8))++y31.key)++([b8 (IntKind.i64.wrap ((p36).tdiv 256)),b8 ((p36).tmod 256)]:List UInt8))++y31.value) fun v39=>
some (.inl (v39,(IntKind.i64.wrap (p15+1))))
else none
else none
noncomputable def Vh (a0:List Ab) (s:(List UInt8)×Int):Option (((List UInt8)×Int)⊕((List UInt8))):=
match s with
| (p14,p15)=>
if (decide (p15<(a0.length:Int)))=true then
(Ec a0 p15).bind fun y31=>
if (p14.length+([b8 (y31.key.length:Int)]:List UInt8).length)*1≤140737488355328 then
if ((p14++([b8 (y31.key.length:Int)]:List UInt8)).length+y31.key.length)*1≤140737488355328 then
if y31.Dm=true then
Rk p14 p15 y31 0
else
Rk p14 p15 y31 (IntKind.i64.wrap ((y31.value.length:Int)+1))
else none
else none
else
some (.inr p14)
noncomputable def YB (a0:List Ab):Option (List UInt8):=
(Bo (Vh a0) (([]:List UInt8),0)).bind fun r43=>
(match r43 with
| p29=>
some p29)
noncomputable def XP (a0:Ap) (a1:List Ab):Option (Ap×Int):=
if (decide ((a1.length:Int)>4096))=true then
some ((Ap.mk ([]:List UInt8) ([]:List Ae)),2)
else
(lH a0).bind fun r2=>
(if ((!r2)==false)=true then cZ a1 else some default).bind fun r4=>
if (bif (!r2) then true else (!r4))=true then
some ((Ap.mk ([]:List UInt8) ([]:List Ae)),1)
else
(XN a0).bind fun r7=>
(sT r7.1 a1).bind fun r9=>
if (decide ((r9.length:Int)>100))=true then
some ((Ap.mk ([]:List UInt8) ([]:List Ae)),9)
else
(YB a1).bind fun r12=>
if (decide ((r12.length:Int)≤2000))=true then
(WF a0 r12).bind fun r15=>
some (r15.1,r15.2)
else
some ((Ap.mk ([]:List UInt8) ([]:List Ae)),4)
noncomputable def g410 (a0:Ab):Option Ab:=
some a0
noncomputable def Rd (a0:List Ab) (s:(List Ab)×Int):Option (((List Ab)×Int)⊕((List Ab))):=
match s with
| (p14,p15)=>
if (decide (p15<(a0.length:Int)))=true then
(Ec a0 p15).bind fun y29=>
(g410 y29).bind fun r31=>
(Ec p14 p15).bind fun y33=>
(p14[p15.toNat]?).bind fun y35=>
some (.inl ((p14.set p15.toNat r31),(IntKind.i64.wrap (p15+1))))
else
some (.inr p14)
noncomputable def fP (a0:List Ab):Option (List Ab):=
if 0≤(a0.length:Int) then
if (a0.length:Int)*40≤140737488355328 then
Bi (List.replicate (a0.length:Int).toNat (Ab.mk ([]:List UInt8) ([]:List UInt8) false)) fun v3=>
(Bo (Rd a0) (v3,0)).bind fun r37=>
(match r37 with
| p27=>
some p27)
else none
else none
noncomputable def YD (a0:Ab) (a1:Ab):Option Bool:=
if (!(a0.key==a1.key))=true then
some false
else
if (!(a0.value==a1.value))=true then
some false
else
if (!(a0.Dm==a1.Dm))=true then
some false
else
some true
noncomputable def Re (a0:List Ab) (a1:List Ab) (s:Int):Option ((Int)⊕(Unit⊕Bool)):=
match s with
| p10=>
if (decide (p10<(a0.length:Int)))=true then
(Ec a0 p10).bind fun y21=>
(Ec a1 p10).bind fun y23=>
(YD y21 y23).bind fun r25=>
if (!r25)=true then
some (.inr (.inr false))
else
some (.inl (IntKind.i64.wrap (p10+1)))
else
some (.inr (.inl ()))
noncomputable def XQ (a0:List Ab) (a1:List Ab):Option Bool:=
if ((a0.length:Int) != (a1.length:Int))=true then
some false
else
(Bo (Re a0 a1) 0).bind fun r28=>
(match r28 with
| .inl ()=>
some true
| .inr q=>some q)
noncomputable def Vb  (s:Int×(List UInt8)):Option ((Int×(List UInt8))⊕((List UInt8))):=
match s with
| (p6,p7)=>
if (decide (p6>0))=true then
if ([b8 (IntKind.i64.wrap (48+((p6).tmod 10)))]:List UInt8).length+p7.length≤9223372036854775807 then
some (.inl ((IntKind.i64.wrap ((p6).tdiv 10)),(([b8 (IntKind.i64.wrap (48+((p6).tmod 10)))]:List UInt8)++p7)))
else none
else
some (.inr p7)
noncomputable def fL (a0:Int):Option (List UInt8):=
if (decide (a0≤0))=true then
some ([109,48]:List UInt8)
else
(Bo (Vb) (a0,([]:List UInt8))).bind fun r15=>
(match r15 with
| p12=>
if ([109]:List UInt8).length+p12.length≤9223372036854775807 then
some (([109]:List UInt8)++p12)
else none)
noncomputable def Rf  (s:(List Ab)×Int×Int):Option (((List Ab)×Int×Int)⊕((List Ab)×Int)):=
match s with
| (p24,p25,p26)=>
if (decide (p26<(p24.length:Int)))=true then
(fL p25).bind fun r56=>
(Ec p24 p26).bind fun y58=>
(p24[p26.toNat]?).bind fun y60=>
(fL (IntKind.i64.wrap (p25+1))).bind fun r62=>
(Ec (p24.set p26.toNat (Ab.mk r56 y60.value y60.Dm)) p26).bind fun y64=>
((p24.set p26.toNat (Ab.mk r56 y60.value y60.Dm))[p26.toNat]?).bind fun y66=>
Bi ((p24.set p26.toNat (Ab.mk r56 y60.value y60.Dm)).set p26.toNat (Ab.mk y66.key r62 y66.Dm)) fun v68=>
(Ec v68 p26).bind fun y70=>
(v68[p26.toNat]?).bind fun y72=>
Bi (v68.set p26.toNat (Ab.mk y72.key y72.value ((((IntKind.i64.wrap ((IntKind.i64.wrap (p25+1))+1))).tmod 3)==0))) fun v74=>
Bi (IntKind.i64.wrap ((IntKind.i64.wrap ((IntKind.i64.wrap (p25+1))+1))+1)) fun v76=>
some (.inl (v74,v76,(IntKind.i64.wrap (p26+1))))
else
some (.inr (p24,p25))
noncomputable def XS (a0:List Ab) (a1:Int):Option (Int×(List Ab)):=
(Bo (Rf) (a0,a1,0)).bind fun r78=>
(match r78 with
| (p53,p54)=>
some (p54,p53))
noncomputable def g378 (a0:Ap) (a1:List Ab):Option Bool:=
(WE a0 1048576).bind fun r1=>
if (decide (r1<0))=true then
some true
else
(XO a1 r1).bind fun r4=>
if (decide (r4<0))=true then
some true
else
(fE a0).bind fun r7=>
(fP a1).bind fun r9=>
(XP r7 r9).bind fun r11=>
(fE a0).bind fun r13=>
(fP a1).bind fun r15=>
(sQ r13 r15).bind fun r17=>
(fG r17.1 r11.1).bind fun r19=>
if (bif (!r19) then true else (r17.2 != r11.2))=true then
some false
else
(fE a0).bind fun r22=>
(fG r13 r22).bind fun r24=>
if (!r24)=true then
some false
else
(fP a1).bind fun r27=>
(XQ r15 r27).bind fun r29=>
if (!r29)=true then
some false
else
(sG r13 1).bind fun r32=>
if r32.2.1.length=r13.held.length then
if r32.2.2.length=r13.Aj.length then
(XS r15 r32.1).bind fun r36=>
if r36.2.length=r15.length then
(if ((decide (r36.1<0))==false)=true then fG r17.1 r11.1 else some default).bind fun r39=>
Bi ((bif (bif (decide (r36.1<0)) then true else (!r39)) then true else (r17.2 != r11.2))) fun v41=>
if v41=true then
some false
else
(sG r17.1 1).bind fun r44=>
if r44.2.1.length=r17.1.held.length then
if r44.2.2.length=r17.1.Aj.length then
(sI (Ap.mk r44.2.1 r44.2.2) 1).bind fun r48=>
if (decide (r48<0))=true then
some false
else
if (r48 != r44.1)=true then
some false
else
(fE a0).bind fun r52=>
(fP a1).bind fun r54=>
(sQ r52 r54).bind fun r56=>
(fG r56.1 r11.1).bind fun r58=>
if (bif (!r58) then true else (r56.2 != r11.2))=true then
some false
else
(sI (Ap.mk r44.2.1 r44.2.2) 1).bind fun r61=>
if (decide (r61<0))=true then
some false
else
if (r61 != r44.1)=true then
some false
else
some true
else none
else none
else none
else none
else none
end Go.Ev
