/- Functions with the answers of the program's, written by a program of ours. -/
import Derived.Test.YtdmclbbhhcpjfaaQvG
set_option linter.all false
set_option maxHeartbeats 4000000
set_option linter.unusedVariables false
set_option maxRecDepth 100000
namespace Go.Ev
structure Ac where
  at_:Int
  data:List UInt8
  deriving Inhabited,DecidableEq
def dZ (x:Ac):Prop:=CS x.at_∧(EE Vw) x.data
def Ao (x:Ac):List V:=[.int .i64 x.at_,.lst 1 (x.data.map Im)]
structure Ae where
  held:List UInt8
  Aa:List Ac
  deriving Inhabited,DecidableEq
def IQ (x:Ae):Prop:=(EE Vw) x.held∧(EE dZ) x.Aa
def Ah (x:Ae):List V:=[.lst 1 (x.held.map Im),.lst 2 (x.Aa.map Ao)]
structure Af where
  kind:Int
  at_:Int
  data:List UInt8
  keep:List Bool
  deriving Inhabited,DecidableEq
def Qn (x:Af):Prop:=CS x.kind∧CS x.at_∧(EE Vw) x.data∧(EE Vw) x.keep
def Ap (x:Af):List V:=[.int .i64 x.kind,.int .i64 x.at_,.lst 1 (x.data.map Im),.lst 1 (x.keep.map eB)]
noncomputable def Sz (a0:List Int) (a1:List Int) (s:Int):Option ((Int)⊕(Unit⊕Bool)):=
match s with
| p8=>
if (decide (p8<(a0.length:Int)))=true then
(Eg a0 p8).bind fun y17=>
(Eg a1 p8).bind fun y19=>
if (y17 != y19)=true then
some (.inr (.inr false))
else
some (.inl (IntKind.i64.wrap (p8+1)))
else
some (.inr (.inl ()))
noncomputable def IM (a0:List Int) (a1:List Int):Option Bool:=
if ((a0.length:Int) != (a1.length:Int))=true then
some false
else
(Br (Sz a0 a1) 0).bind fun r22=>
(match r22 with
| .inl ()=>
some true
| .inr q=>some q)
noncomputable def Ta  (s:(List Int)×Int×Int):Option (((List Int)×Int×Int)⊕((List Int)×Int)):=
match s with
| (p6,p7,p8)=>
if (decide (p8<(p6.length:Int)))=true then
(Eg p6 p8).bind fun y20=>
(p6[p8.toNat]?).bind fun y22=>
some (.inl ((p6.set p8.toNat p7),(IntKind.i64.wrap (p7+1)),(IntKind.i64.wrap (p8+1))))
else
some (.inr (p6,p7))
noncomputable def LS (a0:List Int) (a1:Int):Option (Int×(List Int)):=
(Br (Ta) (a0,a1,0)).bind fun r24=>
(match r24 with
| (p17,p18)=>
some (p18,p17))
noncomputable def Qb (a0:List Int) (s:Int×Int):Option ((Int×Int)⊕(Int⊕Int)):=
match s with
| (p5,p6)=>
if (decide (p6<(a0.length:Int)))=true then
(Eg a0 p6).bind fun y15=>
if (y15 != p5)=true then
some (.inr (.inr (-1)))
else
some (.inl ((IntKind.i64.wrap (p5+1)),(IntKind.i64.wrap (p6+1))))
else
some (.inr (.inl p5))
noncomputable def KV (a0:List Int) (a1:Int):Option Int:=
(Br (Qb a0) (a1,0)).bind fun r18=>
(match r18 with
| .inl p13=>
some p13
| .inr q=>some q)
noncomputable def HI (a0:List Ac):Option Bool:=
some (decide ((a0.length:Int)≤4096))
noncomputable def LT (a0:Int) (a1:Int) (a2:Int):Option Bool:=
some (bif (decide (a1≤a0)) then (decide (a0≤a2)) else false)
noncomputable def CE (a0:Int) (a1:Int):Option Bool:=
(LT a0 0 4096).bind fun r1=>
Cl ((bif r1 then (decide ((IntKind.i64.wrap (a0+a1))≤4096)) else false)) fun v3=>
some v3
def Ya (a0:List UInt8):Option (List UInt8):=if ([]:List UInt8).length+a0.length≤140737488355328 then some a0 else none
noncomputable def Oi (a1:Ac) (p6:List UInt8):Option (List UInt8):=
(eD p6 (IntKind.i64.wrap (32*a1.at_)) (p6.length:Int)).bind fun s7=>
Cl (ovl p6 ((IntKind.i64.wrap (32*a1.at_)).toNat) (a1.data.take s7.length)) fun v9=>
some v9
noncomputable def jZ (a0:List UInt8) (a1:Ac):Option (List UInt8):=
Cl ((decide ((a0.length:Int)<(IntKind.i64.wrap (32*(IntKind.i64.wrap (a1.at_+1))))))) fun v1=>
if v1=true then
if 0≤(IntKind.i64.wrap ((IntKind.i64.wrap (32*(IntKind.i64.wrap (a1.at_+1))))-(a0.length:Int))) then
if ((a0.length:Int)+(IntKind.i64.wrap ((IntKind.i64.wrap (32*(IntKind.i64.wrap (a1.at_+1))))-(a0.length:Int))))*1≤140737488355328 then
Oi a1 (a0++List.replicate (IntKind.i64.wrap ((IntKind.i64.wrap (32*(IntKind.i64.wrap (a1.at_+1))))-(a0.length:Int))).toNat (0:UInt8))
else none
else none
else
Oi a1 a0
noncomputable def Oc (a0:Ae) (s:(List UInt8)×Int):Option (((List UInt8)×Int)⊕((List UInt8))):=
match s with
| (p8,p9)=>
if (decide (p9<(a0.Aa.length:Int)))=true then
(Eg a0.Aa p9).bind fun y19=>
(jZ p8 y19).bind fun r21=>
some (.inl (r21,(IntKind.i64.wrap (p9+1))))
else
some (.inr p8)
noncomputable def jU (a0:Ae):Option (List UInt8):=
(Ya a0.held).bind fun r1=>
(Br (Oc a0) (r1,0)).bind fun r23=>
(match r23 with
| p17=>
some p17)
noncomputable def Lw (a0:Ae) (s:Int×(List Ac)):Option ((Int×(List Ac))⊕((List Ac))):=
match s with
| (p9,p10)=>
if (decide (p9<(a0.Aa.length:Int)))=true then
(Eg a0.Aa p9).bind fun y21=>
(Ya y21.data).bind fun r23=>
if (p10.length+([(Ac.mk y21.at_ r23)]:List Ac).length)*32≤140737488355328 then
some (.inl ((IntKind.i64.wrap (p9+1)),(p10++([(Ac.mk y21.at_ r23)]:List Ac))))
else none
else
some (.inr p10)
noncomputable def CN (a0:Ae):Option Ae:=
(Ya a0.held).bind fun r1=>
(Br (Lw a0) (0,([]:List Ac))).bind fun r26=>
(match r26 with
| p19=>
some (Ae.mk r1 p19))
noncomputable def Ol (a1:Int) (a2:List UInt8) (v6:Int) (p13:List UInt8) (s14:List UInt8) (s:Int×(List Ac)):Option ((Int×(List Ac))⊕((List Ac))):=
match s with
| (p24,p25)=>
if (decide (p24≤v6))=true then
(eD (ovl p13 a1.toNat (a2.take s14.length)) (IntKind.i64.wrap (32*p24)) (IntKind.i64.wrap (32*(IntKind.i64.wrap (p24+1))))).bind fun s36=>
(Ya s36).bind fun r38=>
if (p25.length+([(Ac.mk p24 r38)]:List Ac).length)*32≤140737488355328 then
some (.inl ((IntKind.i64.wrap (p24+1)),(p25++([(Ac.mk p24 r38)]:List Ac))))
else none
else
some (.inr p25)
noncomputable def Oj (a1:Int) (a2:List UInt8) (r1:Ae) (v6:Int) (p13:List UInt8):Option Ae:=
(eD p13 a1 (p13.length:Int)).bind fun s14=>
(Br (Ol a1 a2 v6 p13 s14) ((IntKind.i64.wrap ((a1).tdiv 32)),r1.Aa)).bind fun r41=>
(match r41 with
| p34=>
some (Ae.mk r1.held p34))
noncomputable def CF (a0:Ae) (a1:Int) (a2:List UInt8):Option Ae:=
(CN a0).bind fun r1=>
if ((a2.length:Int)==0)=true then
some r1
else
(jU a0).bind fun r4=>
Cl (IntKind.i64.wrap (((IntKind.i64.wrap ((IntKind.i64.wrap (a1+(a2.length:Int)))-1))).tdiv 32)) fun v6=>
Cl ((decide ((r4.length:Int)<(IntKind.i64.wrap (32*(IntKind.i64.wrap (v6+1))))))) fun v8=>
if v8=true then
if 0≤(IntKind.i64.wrap ((IntKind.i64.wrap (32*(IntKind.i64.wrap (v6+1))))-(r4.length:Int))) then
if ((r4.length:Int)+(IntKind.i64.wrap ((IntKind.i64.wrap (32*(IntKind.i64.wrap (v6+1))))-(r4.length:Int))))*1≤140737488355328 then
Oj a1 a2 r1 v6 (r4++List.replicate (IntKind.i64.wrap ((IntKind.i64.wrap (32*(IntKind.i64.wrap (v6+1))))-(r4.length:Int))).toNat (0:UInt8))
else none
else none
else
Oj a1 a2 r1 v6 r4
noncomputable def Zu (a0:Ae) (a1:Int) (a2:List UInt8):Option (Ae×Int):=
(CE a1 (a2.length:Int)).bind fun r1=>
if (!r1)=true then
some ((Ae.mk ([]:List UInt8) ([]:List Ac)),9)
else
(CF a0 a1 a2).bind fun r4=>
(HI r4.Aa).bind fun r6=>
if (!r6)=true then
some ((Ae.mk ([]:List UInt8) ([]:List Ac)),6)
else
some (r4,0)
noncomputable def HH (a0:List Af):Option Bool:=
some (decide ((a0.length:Int)≤4096))
noncomputable def dL (a0:Ae):Option Ae:=
(jU a0).bind fun r1=>
some (Ae.mk r1 ([]:List Ac))
noncomputable def Rz (p13:Int) (p34:List UInt8):Option (((List UInt8)×Int)⊕((List UInt8))):=
some (.inl (p34,(IntKind.i64.wrap (p13+1))))
noncomputable def Lp (a0:Ae) (a1:List Bool) (s:(List UInt8)×Int):Option (((List UInt8)×Int)⊕((List UInt8))):=
match s with
| (p12,p13)=>
if (decide (p13<(a0.Aa.length:Int)))=true then
(Eg a0.Aa p13).bind fun y36=>
(if ((decide (p13<(a1.length:Int)))==true)=true then Eg a1 p13 else some default).bind fun y38=>
if (bif (decide (p13<(a1.length:Int))) then y38 else false)=true then
(jZ p12 y36).bind fun r41=>
Rz p13 r41
else
Rz p13 p12
else
some (.inr p12)
noncomputable def Zv (a0:Ae) (a1:List Bool):Option Ae:=
(Ya a0.held).bind fun r1=>
(Br (Lp a0 a1) (r1,0)).bind fun r43=>
(match r43 with
| p25=>
some (Ae.mk p25 ([]:List Ac)))
noncomputable def Jg (p22:List Int) (p23:Int) (p63:Int) (p64:List UInt8) (p65:List Ac):Option (((List Int)×Int×(List UInt8)×(List Ac))⊕((List Int)×(List UInt8)×(List Ac))):=
if (p22.length+([p63]:List Int).length)*8≤140737488355328 then
some (.inl ((p22++([p63]:List Int)),(IntKind.i64.wrap (p23+1)),p64,p65))
else none
noncomputable def Ga (a0:List Af) (s:(List Int)×Int×(List UInt8)×(List Ac)):Option (((List Int)×Int×(List UInt8)×(List Ac))⊕((List Int)×(List UInt8)×(List Ac))):=
match s with
| (p22,p23,p24,p25)=>
if (decide (p23<(a0.length:Int)))=true then
(Eg a0 p23).bind fun y51=>
if (y51.kind==1)=true then
(Zu (Ae.mk p24 p25) y51.at_ y51.data).bind fun r69=>
if (r69.2==0)=true then
Jg p22 p23 r69.2 r69.1.held r69.1.Aa
else
Jg p22 p23 r69.2 p24 p25
else
if (y51.kind==2)=true then
(dL (Ae.mk p24 p25)).bind fun r73=>
Jg p22 p23 0 r73.held r73.Aa
else
if (y51.kind==3)=true then
(Zv (Ae.mk p24 p25) y51.keep).bind fun r76=>
Jg p22 p23 0 r76.held r76.Aa
else
Jg p22 p23 16 p24 p25
else
some (.inr (p22,p24,p25))
noncomputable def jS (a0:List Af):Option ((List Int)×Ae×Int):=
(HH a0).bind fun r1=>
if (!r1)=true then
some ([],(Ae.mk ([]:List UInt8) ([]:List Ac)),2)
else
if (decide ((a0.length:Int)>200))=true then
some ([],(Ae.mk ([]:List UInt8) ([]:List Ac)),6)
else
(Br (Ga a0) ([],0,([]:List UInt8),([]:List Ac))).bind fun r78=>
(match r78 with
| (p47,p48,p49)=>
some (p47,(Ae.mk p48 p49),0))
noncomputable def Nw (a0:List UInt8) (a1:List UInt8) (s:Int):Option ((Int)⊕(Unit⊕Bool)):=
match s with
| p8=>
if (decide (p8<(a0.length:Int)))=true then
(Eg a0 p8).bind fun y17=>
(Eg a1 p8).bind fun y19=>
if (((y17).toNat:Int) != ((y19).toNat:Int))=true then
some (.inr (.inr false))
else
some (.inl (IntKind.i64.wrap (p8+1)))
else
some (.inr (.inl ()))
noncomputable def dI (a0:List UInt8) (a1:List UInt8):Option Bool:=
if ((a0.length:Int) != (a1.length:Int))=true then
some false
else
(Br (Nw a0 a1) 0).bind fun r22=>
(match r22 with
| .inl ()=>
some true
| .inr q=>some q)
noncomputable def kA (a0:Ac) (a1:Ac):Option Bool:=
if (a0.at_ != a1.at_)=true then
some false
else
(dI a0.data a1.data).bind fun r2=>
if (!r2)=true then
some false
else
some true
noncomputable def Oe (a0:List Ac) (a1:List Ac) (s:Int):Option ((Int)⊕(Unit⊕Bool)):=
match s with
| p10=>
if (decide (p10<(a0.length:Int)))=true then
(Eg a0 p10).bind fun y21=>
(Eg a1 p10).bind fun y23=>
(kA y21 y23).bind fun r25=>
if (!r25)=true then
some (.inr (.inr false))
else
some (.inl (IntKind.i64.wrap (p10+1)))
else
some (.inr (.inl ()))
noncomputable def BV (a0:List Ac) (a1:List Ac):Option Bool:=
if ((a0.length:Int) != (a1.length:Int))=true then
some false
else
(Br (Oe a0 a1) 0).bind fun r28=>
(match r28 with
| .inl ()=>
some true
| .inr q=>some q)
noncomputable def dG (a0:Ae) (a1:Ae):Option Bool:=
(dI a0.held a1.held).bind fun r1=>
if (!r1)=true then
some false
else
(BV a0.Aa a1.Aa).bind fun r4=>
if (!r4)=true then
some false
else
some true
noncomputable def Ny  (s:(List UInt8)×Int×Int):Option (((List UInt8)×Int×Int)⊕((List UInt8)×Int)):=
match s with
| (p6,p7,p8)=>
if (decide (p8<(p6.length:Int)))=true then
(Eg p6 p8).bind fun y20=>
(p6[p8.toNat]?).bind fun y22=>
some (.inl ((p6.set p8.toNat (b8 p7)),(IntKind.i64.wrap (p7+1)),(IntKind.i64.wrap (p8+1))))
else
some (.inr (p6,p7))
noncomputable def dJ (a0:List UInt8) (a1:Int):Option (Int×(List UInt8)):=
(Br (Ny) (a0,a1,0)).bind fun r24=>
(match r24 with
| (p17,p18)=>
some (p18,p17))
noncomputable def Ls  (s:(List Ac)×Int×Int):Option (((List Ac)×Int×Int)⊕((List Ac)×Int)):=
match s with
| (p15,p16,p17)=>
if (decide (p17<(p15.length:Int)))=true then
(Eg p15 p17).bind fun y38=>
(p15[p17.toNat]?).bind fun y40=>
(Eg (p15.set p17.toNat (Ac.mk p16 y40.data)) p17).bind fun y42=>
((p15.set p17.toNat (Ac.mk p16 y40.data))[p17.toNat]?).bind fun y44=>
(dJ y44.data (IntKind.i64.wrap (p16+1))).bind fun r46=>
if r46.2.length=y44.data.length then
Cl ((p15.set p17.toNat (Ac.mk p16 y40.data)).set p17.toNat (Ac.mk y44.at_ r46.2)) fun v49=>
some (.inl (v49,r46.1,(IntKind.i64.wrap (p17+1))))
else none
else
some (.inr (p15,p16))
noncomputable def BW (a0:List Ac) (a1:Int):Option (Int×(List Ac)):=
(Br (Ls) (a0,a1,0)).bind fun r51=>
(match r51 with
| (p35,p36)=>
some (p36,p35))
noncomputable def BH (a0:Ae) (a1:Int):Option (Int×(List UInt8)×(List Ac)):=
(dJ a0.held a1).bind fun r1=>
if r1.2.length=a0.held.length then
(BW a0.Aa r1.1).bind fun r4=>
if r4.2.length=a0.Aa.length then
some (r4.1,r1.2,r4.2)
else none
else none
noncomputable def Lt (a0:List UInt8) (s:Int×Int):Option ((Int×Int)⊕(Int⊕Int)):=
match s with
| (p5,p6)=>
if (decide (p6<(a0.length:Int)))=true then
(Eg a0 p6).bind fun y15=>
if (((y15).toNat:Int) != ((b8 p5).toNat:Int))=true then
some (.inr (.inr (-1)))
else
some (.inl ((IntKind.i64.wrap (p5+1)),(IntKind.i64.wrap (p6+1))))
else
some (.inr (.inl p5))
noncomputable def jW (a0:List UInt8) (a1:Int):Option Int:=
(Br (Lt a0) (a1,0)).bind fun r18=>
(match r18 with
| .inl p13=>
some p13
| .inr q=>some q)
noncomputable def Lu (a0:List Ac) (s:Int×Int):Option ((Int×Int)⊕(Int⊕Int)):=
match s with
| (p10,p11)=>
if (decide (p11<(a0.length:Int)))=true then
(Eg a0 p11).bind fun y25=>
if (y25.at_ != p10)=true then
some (.inr (.inr (-1)))
else
(Eg a0 p11).bind fun y28=>
(jW y28.data (IntKind.i64.wrap (p10+1))).bind fun r30=>
if (decide (r30<0))=true then
some (.inr (.inr (-1)))
else
some (.inl (r30,(IntKind.i64.wrap (p11+1))))
else
some (.inr (.inl p10))
noncomputable def BY (a0:List Ac) (a1:Int):Option Int:=
(Br (Lu a0) (a1,0)).bind fun r33=>
(match r33 with
| .inl p23=>
some p23
| .inr q=>some q)
noncomputable def jT (a0:Ae) (a1:Int):Option Int:=
(jW a0.held a1).bind fun r1=>
if (decide (r1<0))=true then
some (-1)
else
(BY a0.Aa r1).bind fun r4=>
if (decide (r4<0))=true then
some (-1)
else
some r4
noncomputable def jV (a0:List UInt8) (a1:Int):Option Int:=
if (decide ((IntKind.i64.wrap (a1-(a0.length:Int)))<0))=true then
some (-1)
else
some (IntKind.i64.wrap (a1-(a0.length:Int)))
noncomputable def kC (a0:List Bool) (a1:Int):Option Int:=
if (decide ((IntKind.i64.wrap (a1-(a0.length:Int)))<0))=true then
some (-1)
else
some (IntKind.i64.wrap (a1-(a0.length:Int)))
noncomputable def HK (a0:Af) (a1:Int):Option Int:=
(jV a0.data a1).bind fun r1=>
if (decide (r1<0))=true then
some (-1)
else
(kC a0.keep r1).bind fun r4=>
if (decide (r4<0))=true then
some (-1)
else
some r4
noncomputable def Nz (a0:List Af) (s:Int×Int):Option ((Int×Int)⊕(Int⊕Int)):=
match s with
| (p8,p9)=>
if (decide (p9<(a0.length:Int)))=true then
(Eg a0 p9).bind fun y20=>
(HK y20 p8).bind fun r22=>
if (decide (r22<0))=true then
some (.inr (.inr (-1)))
else
some (.inl (r22,(IntKind.i64.wrap (p9+1))))
else
some (.inr (.inl p8))
noncomputable def BI (a0:List Af) (a1:Int):Option Int:=
if (decide ((IntKind.i64.wrap (a1-(a0.length:Int)))<0))=true then
some (-1)
else
(Br (Nz a0) ((IntKind.i64.wrap (a1-(a0.length:Int))),0)).bind fun r25=>
(match r25 with
| .inl p18=>
some p18
| .inr q=>some q)
noncomputable def Lr (a0:Ae) (s:Int×(List Ac)):Option ((Int×(List Ac))⊕((List Ac))):=
match s with
| (p9,p10)=>
if (decide (p9<(a0.Aa.length:Int)))=true then
(Eg a0.Aa p9).bind fun y22=>
if (([]:List UInt8).length+y22.data.length)*1≤140737488355328 then
if (p10.length+([(Ac.mk y22.at_ (([]:List UInt8)++y22.data))]:List Ac).length)*32≤140737488355328 then
Cl (p10++([(Ac.mk y22.at_ (([]:List UInt8)++y22.data))]:List Ac)) fun v26=>
some (.inl ((IntKind.i64.wrap (p9+1)),v26))
else none
else none
else
some (.inr p10)
noncomputable def BT (a0:Ae):Option Ae:=
if (([]:List UInt8).length+a0.held.length)*1≤140737488355328 then
(Br (Lr a0) (0,([]:List Ac))).bind fun r28=>
(match r28 with
| p20=>
some (Ae.mk (([]:List UInt8)++a0.held) p20))
else none
noncomputable def BQ (a0:Int) (a1:Int):Option Bool:=
Cl ((bif (bif (decide (a0≥0)) then (decide (a1≤4096)) else false) then (decide (a0≤(IntKind.i64.wrap (4096-a1)))) else false)) fun v1=>
some v1
noncomputable def Om (a1:Ac) (s:(List UInt8)):Option (((List UInt8))⊕((List UInt8))):=
match s with
| p7=>
Cl ((decide ((p7.length:Int)<(IntKind.i64.wrap ((IntKind.i64.wrap (a1.at_+1))*32))))) fun v15=>
if v15=true then
if 0≤(32:Int) then
if ((p7.length:Int)+(32:Int))*1≤140737488355328 then
some (.inl (p7++List.replicate (32:Int).toNat (0:UInt8)))
else none
else none
else
some (.inr p7)
noncomputable def kB (a0:List UInt8) (a1:Ac):Option (List UInt8):=
if (([]:List UInt8).length+a0.length)*1≤140737488355328 then
(Br (Om a1) (([]:List UInt8)++a0)).bind fun r20=>
(match r20 with
| p14=>
(eD p14 (IntKind.i64.wrap (a1.at_*32)) (p14.length:Int)).bind fun s22=>
Cl (ovl p14 ((IntKind.i64.wrap (a1.at_*32)).toNat) (a1.data.take s22.length)) fun v24=>
some v24)
else none
noncomputable def Of (a0:Ae) (s:(List UInt8)×Int):Option (((List UInt8)×Int)⊕((List UInt8))):=
match s with
| (p7,p8)=>
if (decide (p8<(a0.Aa.length:Int)))=true then
(Eg a0.Aa p8).bind fun y18=>
(kB p7 y18).bind fun r20=>
some (.inl (r20,(IntKind.i64.wrap (p8+1))))
else
some (.inr p7)
noncomputable def jX (a0:Ae):Option (List UInt8):=
if (([]:List UInt8).length+a0.held.length)*1≤140737488355328 then
(Br (Of a0) ((([]:List UInt8)++a0.held),0)).bind fun r22=>
(match r22 with
| p16=>
some p16)
else none
noncomputable def Od (a1:Int) (a2:List UInt8) (s:(List UInt8)):Option (((List UInt8))⊕((List UInt8))):=
match s with
| p7=>
Cl ((bif (decide ((p7.length:Int)<(IntKind.i64.wrap (a1+(a2.length:Int))))) then true else ((((p7.length:Int)).tmod 32) != 0))) fun v14=>
if v14=true then
if (p7.length+([(0:UInt8)]:List UInt8).length)*1≤140737488355328 then
some (.inl (p7++([(0:UInt8)]:List UInt8)))
else none
else
some (.inr p7)
noncomputable def Lq (a1:Int) (a2:List UInt8) (p13:List UInt8) (s20:List UInt8) (s:Int×(List Ac)):Option ((Int×(List Ac))⊕((List Ac))):=
match s with
| (p34,p35)=>
Cl ((decide ((IntKind.i64.wrap (p34*32))<(IntKind.i64.wrap (a1+(a2.length:Int)))))) fun v46=>
if v46=true then
(eD (ovl p13 a1.toNat (a2.take s20.length)) (IntKind.i64.wrap (p34*32)) (IntKind.i64.wrap ((IntKind.i64.wrap (p34+1))*32))).bind fun s49=>
if (([]:List UInt8).length+s49.length)*1≤140737488355328 then
if (p35.length+([(Ac.mk p34 (([]:List UInt8)++s49))]:List Ac).length)*32≤140737488355328 then
some (.inl ((IntKind.i64.wrap (p34+1)),(p35++([(Ac.mk p34 (([]:List UInt8)++s49))]:List Ac))))
else none
else none
else
some (.inr p35)
noncomputable def BR (a0:Ae) (a1:Int) (a2:List UInt8):Option Ae:=
(jX a0).bind fun r1=>
(Br (Od a1 a2) r1).bind fun r18=>
(match r18 with
| p13=>
(eD p13 a1 (p13.length:Int)).bind fun s20=>
if (([]:List Ac).length+a0.Aa.length)*32≤140737488355328 then
if ((a2.length:Int)==0)=true then
some (Ae.mk a0.held (([]:List Ac)++a0.Aa))
else
(Br (Lq a1 a2 p13 s20) ((IntKind.i64.wrap ((a1).tdiv 32)),(([]:List Ac)++a0.Aa))).bind fun r53=>
(match r53 with
| p45=>
some (Ae.mk a0.held p45))
else none)
noncomputable def Sa (p12:Int) (p33:List UInt8):Option (((List UInt8)×Int)⊕((List UInt8))):=
some (.inl (p33,(IntKind.i64.wrap (p12+1))))
noncomputable def Lv (a0:Ae) (a1:List Bool) (s:(List UInt8)×Int):Option (((List UInt8)×Int)⊕((List UInt8))):=
match s with
| (p11,p12)=>
if (decide (p12<(a0.Aa.length:Int)))=true then
(if ((decide (p12<(a1.length:Int)))==true)=true then Eg a1 p12 else some default).bind fun y35=>
if (bif (decide (p12<(a1.length:Int))) then y35 else false)=true then
(Eg a0.Aa p12).bind fun y38=>
(kB p11 y38).bind fun r40=>
Sa p12 r40
else
Sa p12 p11
else
some (.inr p11)
noncomputable def CI (a0:Ae) (a1:List Bool):Option Ae:=
if (([]:List UInt8).length+a0.held.length)*1≤140737488355328 then
(Br (Lv a0 a1) ((([]:List UInt8)++a0.held),0)).bind fun r42=>
(match r42 with
| p24=>
some (Ae.mk p24 ([]:List Ac)))
else none
noncomputable def jY (a0:Ae) (a1:Af):Option (Ae×Int):=
if (a1.kind==1)=true then
(BQ a1.at_ (a1.data.length:Int)).bind fun r2=>
if (!r2)=true then
some (a0,9)
else
(BR a0 a1.at_ a1.data).bind fun r5=>
if (decide ((r5.Aa.length:Int)>4096))=true then
some (a0,6)
else
some (r5,0)
else
if (a1.kind==2)=true then
(jX a0).bind fun r9=>
some ((Ae.mk r9 ([]:List Ac)),0)
else
if (a1.kind==3)=true then
(CI a0 a1.keep).bind fun r12=>
some (r12,0)
else
some (a0,16)
noncomputable def Gu (a0:List Af) (s:(List Int)×Int×(List UInt8)×(List Ac)):Option (((List Int)×Int×(List UInt8)×(List Ac))⊕((List Int)×(List UInt8)×(List Ac))):=
match s with
| (p10,p11,p12,p13)=>
if (decide (p11<(a0.length:Int)))=true then
(Eg a0 p11).bind fun y29=>
(jY (Ae.mk p12 p13) y29).bind fun r31=>
if (p10.length+([r31.2]:List Int).length)*8≤140737488355328 then
some (.inl ((p10++([r31.2]:List Int)),(IntKind.i64.wrap (p11+1)),r31.1.held,r31.1.Aa))
else none
else
some (.inr (p10,p12,p13))
noncomputable def BJ (a0:List Af):Option ((List Int)×Ae×Int):=
if (decide ((a0.length:Int)>4096))=true then
some (([]:List Int),(Ae.mk ([]:List UInt8) ([]:List Ac)),2)
else
if (decide ((a0.length:Int)>200))=true then
some (([]:List Int),(Ae.mk ([]:List UInt8) ([]:List Ac)),6)
else
(Br (Gu a0) (([]:List Int),0,([]:List UInt8),([]:List Ac))).bind fun r35=>
(match r35 with
| (p25,p26,p27)=>
(BT (Ae.mk p26 p27)).bind fun r37=>
some (p25,r37,0))
noncomputable def Ln (a0:List UInt8) (s:(List UInt8)×Int):Option (((List UInt8)×Int)⊕((List UInt8))):=
match s with
| (p10,p11)=>
if (decide (p11<(a0.length:Int)))=true then
(Eg a0 p11).bind fun y23=>
(Eg p10 p11).bind fun y25=>
(p10[p11.toNat]?).bind fun y27=>
some (.inl ((p10.set p11.toNat y23),(IntKind.i64.wrap (p11+1))))
else
some (.inr p10)
noncomputable def BF (a0:List UInt8):Option (List UInt8):=
if 0≤(a0.length:Int) then
if (a0.length:Int)*1≤140737488355328 then
(Br (Ln a0) ((List.replicate (a0.length:Int).toNat (0:UInt8)),0)).bind fun r29=>
(match r29 with
| p21=>
some p21)
else none
else none
noncomputable def On (a0:List Bool) (s:(List Bool)×Int):Option (((List Bool)×Int)⊕((List Bool))):=
match s with
| (p10,p11)=>
if (decide (p11<(a0.length:Int)))=true then
(Eg a0 p11).bind fun y23=>
(Eg p10 p11).bind fun y25=>
(p10[p11.toNat]?).bind fun y27=>
some (.inl ((p10.set p11.toNat y23),(IntKind.i64.wrap (p11+1))))
else
some (.inr p10)
noncomputable def CK (a0:List Bool):Option (List Bool):=
if 0≤(a0.length:Int) then
if (a0.length:Int)*1≤140737488355328 then
(Br (On a0) ((List.replicate (a0.length:Int).toNat false),0)).bind fun r29=>
(match r29 with
| p21=>
some p21)
else none
else none
noncomputable def CA (a0:Af):Option Af:=
(BF a0.data).bind fun r1=>
(CK a0.keep).bind fun r3=>
some (Af.mk a0.kind a0.at_ r1 r3)
noncomputable def Oa (a0:List Af) (s:(List Af)×Int):Option (((List Af)×Int)⊕((List Af))):=
match s with
| (p14,p15)=>
if (decide (p15<(a0.length:Int)))=true then
(Eg a0 p15).bind fun y29=>
(CA y29).bind fun r31=>
(Eg p14 p15).bind fun y33=>
(p14[p15.toNat]?).bind fun y35=>
some (.inl ((p14.set p15.toNat r31),(IntKind.i64.wrap (p15+1))))
else
some (.inr p14)
noncomputable def Zt (a0:List Af):Option (List Af):=
if 0≤(a0.length:Int) then
if (a0.length:Int)*64≤140737488355328 then
Cl (List.replicate (a0.length:Int).toNat (Af.mk 0 0 ([]:List UInt8) ([]:List Bool))) fun v3=>
(Br (Oa a0) (v3,0)).bind fun r37=>
(match r37 with
| p27=>
some p27)
else none
else none
noncomputable def Oo (a0:List Bool) (a1:List Bool) (s:Int):Option ((Int)⊕(Unit⊕Bool)):=
match s with
| p8=>
if (decide (p8<(a0.length:Int)))=true then
(Eg a0 p8).bind fun y17=>
(Eg a1 p8).bind fun y19=>
if (!(y17==y19))=true then
some (.inr (.inr false))
else
some (.inl (IntKind.i64.wrap (p8+1)))
else
some (.inr (.inl ()))
noncomputable def CM (a0:List Bool) (a1:List Bool):Option Bool:=
if ((a0.length:Int) != (a1.length:Int))=true then
some false
else
(Br (Oo a0 a1) 0).bind fun r22=>
(match r22 with
| .inl ()=>
some true
| .inr q=>some q)
noncomputable def CB (a0:Af) (a1:Af):Option Bool:=
if (a0.kind != a1.kind)=true then
some false
else
if (a0.at_ != a1.at_)=true then
some false
else
(dI a0.data a1.data).bind fun r3=>
if (!r3)=true then
some false
else
(CM a0.keep a1.keep).bind fun r6=>
if (!r6)=true then
some false
else
some true
noncomputable def Ob (a0:List Af) (a1:List Af) (s:Int):Option ((Int)⊕(Unit⊕Bool)):=
match s with
| p10=>
if (decide (p10<(a0.length:Int)))=true then
(Eg a0 p10).bind fun y21=>
(Eg a1 p10).bind fun y23=>
(CB y21 y23).bind fun r25=>
if (!r25)=true then
some (.inr (.inr false))
else
some (.inl (IntKind.i64.wrap (p10+1)))
else
some (.inr (.inl ()))
noncomputable def BL (a0:List Af) (a1:List Af):Option Bool:=
if ((a0.length:Int) != (a1.length:Int))=true then
some false
else
(Br (Ob a0 a1) 0).bind fun r28=>
(match r28 with
| .inl ()=>
some true
| .inr q=>some q)
noncomputable def Og  (s:(List Bool)×Int×Int):Option (((List Bool)×Int×Int)⊕((List Bool)×Int)):=
match s with
| (p6,p7,p8)=>
if (decide (p8<(p6.length:Int)))=true then
(Eg p6 p8).bind fun y20=>
(p6[p8.toNat]?).bind fun y22=>
some (.inl ((p6.set p8.toNat (((p7).tmod 3)==0)),(IntKind.i64.wrap (p7+1)),(IntKind.i64.wrap (p8+1))))
else
some (.inr (p6,p7))
noncomputable def CC (a0:List Bool) (a1:Int):Option (Int×(List Bool)):=
(Br (Og) (a0,a1,0)).bind fun r24=>
(match r24 with
| (p17,p18)=>
some (p18,p17))
noncomputable def Lo  (s:(List Af)×Int×Int):Option (((List Af)×Int×Int)⊕((List Af)×Int)):=
match s with
| (p30,p31,p32)=>
if (decide (p32<(p30.length:Int)))=true then
(Eg p30 p32).bind fun y66=>
(p30[p32.toNat]?).bind fun y68=>
(Eg (p30.set p32.toNat (Af.mk p31 y68.at_ y68.data y68.keep)) p32).bind fun y70=>
((p30.set p32.toNat (Af.mk p31 y68.at_ y68.data y68.keep))[p32.toNat]?).bind fun y72=>
Cl ((p30.set p32.toNat (Af.mk p31 y68.at_ y68.data y68.keep)).set p32.toNat (Af.mk y72.kind (IntKind.i64.wrap (p31+1)) y72.data y72.keep)) fun v74=>
(Eg v74 p32).bind fun y76=>
(v74[p32.toNat]?).bind fun y78=>
(dJ y78.data (IntKind.i64.wrap ((IntKind.i64.wrap (p31+1))+1))).bind fun r80=>
if r80.2.length=y78.data.length then
(Eg (v74.set p32.toNat (Af.mk y78.kind y78.at_ r80.2 y78.keep)) p32).bind fun y83=>
((v74.set p32.toNat (Af.mk y78.kind y78.at_ r80.2 y78.keep))[p32.toNat]?).bind fun y85=>
(CC y85.keep r80.1).bind fun r87=>
if r87.2.length=y85.keep.length then
Cl ((v74.set p32.toNat (Af.mk y78.kind y78.at_ r80.2 y78.keep)).set p32.toNat (Af.mk y85.kind y85.at_ y85.data r87.2)) fun v90=>
some (.inl (v90,r87.1,(IntKind.i64.wrap (p32+1))))
else none
else none
else
some (.inr (p30,p31))
noncomputable def BM (a0:List Af) (a1:Int):Option (Int×(List Af)):=
(Br (Lo) (a0,a1,0)).bind fun r92=>
(match r92 with
| (p63,p64)=>
some (p64,p63))
noncomputable def HF (a0:List Af):Option Bool:=
(BI a0 1048576).bind fun r1=>
if (decide (r1<0))=true then
some true
else
(Zt a0).bind fun r4=>
(BJ r4).bind fun r6=>
(Zt a0).bind fun r8=>
(jS r8).bind fun r10=>
(IM r10.1 r6.1).bind fun r12=>
(if ((!r12)==false)=true then dG r10.2.1 r6.2.1 else some default).bind fun r14=>
Cl ((bif (bif (!r12) then true else (!r14)) then true else (r10.2.2 != r6.2.2))) fun v16=>
if v16=true then
some false
else
(Zt a0).bind fun r19=>
(BL r8 r19).bind fun r21=>
if (!r21)=true then
some false
else
(BM r8 1).bind fun r24=>
if r24.2.length=r8.length then
(if ((decide (r24.1<0))==false)=true then IM r10.1 r6.1 else some default).bind fun r27=>
(if ((bif (decide (r24.1<0)) then true else (!r27))==false)=true then dG r10.2.1 r6.2.1 else some default).bind fun r29=>
Cl ((bif (bif (bif (decide (r24.1<0)) then true else (!r27)) then true else (!r29)) then true else (r10.2.2 != r6.2.2))) fun v31=>
if v31=true then
some false
else
(LS r10.1 1).bind fun r34=>
if r34.2.length=r10.1.length then
(BH r10.2.1 r34.1).bind fun r37=>
if r37.2.1.length=r10.2.1.held.length then
if r37.2.2.length=r10.2.1.Aa.length then
(KV r34.2 1).bind fun r41=>
if (decide (r41<0))=true then
some false
else
(jT (Ae.mk r37.2.1 r37.2.2) r41).bind fun r44=>
if (decide (r44<0))=true then
some false
else
if (r44 != r37.1)=true then
some false
else
(Zt a0).bind fun r48=>
(jS r48).bind fun r50=>
(IM r50.1 r6.1).bind fun r52=>
(if ((!r52)==false)=true then dG r50.2.1 r6.2.1 else some default).bind fun r54=>
Cl ((bif (bif (!r52) then true else (!r54)) then true else (r50.2.2 != r6.2.2))) fun v56=>
if v56=true then
some false
else
(KV r34.2 1).bind fun r59=>
if (decide (r59<0))=true then
some false
else
(jT (Ae.mk r37.2.1 r37.2.2) r59).bind fun r62=>
if (decide (r62<0))=true then
some false
else
if (r62 != r37.1)=true then
some false
else
some true
else none
else none
else none
else none
end Go.Ev
