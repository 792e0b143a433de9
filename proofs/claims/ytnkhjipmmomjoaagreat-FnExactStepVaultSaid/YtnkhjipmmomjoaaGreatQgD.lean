/- Functions with the answers of the program's, written by a program of ours. -/
import Derived.Test.YtnkhjipmmomjoaaGreatQvG
set_option linter.all false
set_option maxHeartbeats 4000000
set_option linter.unusedVariables false
set_option maxRecDepth 100000
namespace Go.Ev
structure Aa where
  id:Int
  Bg:Int
  cap:Int
  Bz:Bool
  deriving Inhabited,DecidableEq
def jR (x:Aa):Prop:=Oh x.id∧Oh x.Bg∧Oh x.cap∧jQ x.Bz
def Ad (x:Aa):List V:=[.int .i64 x.id,.int .i64 x.Bg,.int .i64 x.cap,.bool x.Bz]
structure Ar where
  clock:Int
  next:Int
  Ae:List Aa
  deriving Inhabited,DecidableEq
def jS (x:Ar):Prop:=Oh x.clock∧Oh x.next∧(okL jR) x.Ae
def Bb (x:Ar):List V:=[.int .i64 x.clock,.int .i64 x.next,.lst 4 (x.Ae.map Ad)]
structure Aj where
  Ay:Int
  Ji:Bool
  deriving Inhabited,DecidableEq
def dW (x:Aj):Prop:=Oh x.Ay∧jQ x.Ji
def Bq (x:Aj):List V:=[.int .i64 x.Ay,.bool x.Ji]
structure Ap where
  Ac:Ar
  Ab:List Aj
  Ah:List Int
  An:Bool
  deriving Inhabited,DecidableEq
def Pt (x:Ap):Prop:=jS x.Ac∧(okL dW) x.Ab∧(okL Oh) x.Ah∧jQ x.An
def Au (x:Ap):List V:=[.int .i64 x.Ac.clock,.int .i64 x.Ac.next,.lst 4 (x.Ac.Ae.map Ad),.lst 2 (x.Ab.map Bq),.lst 1 (x.Ah.map eI),.bool x.An]
structure Bc where
  kind:Int
  id:Int
  ttl:Int
  Dr:Int
  clock:Int
  Bu:List Int
  stop:Int
  deriving Inhabited,DecidableEq
def Lq (x:Bc):Prop:=Oh x.kind∧Oh x.id∧Oh x.ttl∧Oh x.Dr∧Oh x.clock∧(okL Oh) x.Bu∧Oh x.stop
def Am (x:Bc):List V:=[.int .i64 x.kind,.int .i64 x.id,.int .i64 x.ttl,.int .i64 x.Dr,.int .i64 x.clock,.lst 1 (x.Bu.map eI),.int .i64 x.stop]
structure Aw where
  code_:Int
  id:Int
  deriving Inhabited,DecidableEq
def GH (x:Aw):Prop:=Oh x.code_∧Oh x.id
def Af (x:Aw):List V:=[.int .i64 x.code_,.int .i64 x.id]
structure Cx where
  v:Ap
  a:Bc
  Gm:Int
  deriving Inhabited,DecidableEq
def okDrunner (x:Cx):Prop:=Pt x.v∧Lq x.a∧Oh x.Gm
def iS (x:Cx):List V:=[.int .i64 x.v.Ac.clock,.int .i64 x.v.Ac.next,.lst 4 (x.v.Ac.Ae.map Ad),.lst 2 (x.v.Ab.map Bq),.lst 1 (x.v.Ah.map eI),.bool x.v.An,.int .i64 x.a.kind,.int .i64 x.a.id,.int .i64 x.a.ttl,.int .i64 x.a.Dr,.int .i64 x.a.clock,.lst 1 (x.a.Bu.map eI),.int .i64 x.a.stop,.int .i64 x.Gm]
noncomputable def g55 (a0:List Aa) (a1:Int):Option Int:=
if (decide ((IntKind.i64.wrap (a1-(a0.length:Int)))<0))=true then
some (-1)
else
some (IntKind.i64.wrap (a1-(a0.length:Int)))
noncomputable def g17 (a0:Ar) (a1:Int):Option Int:=
(g55 a0.Ae a1).bind fun r1=>
if (decide (r1<0))=true then
some (-1)
else
some r1
noncomputable def g90 (a0:List Aj) (a1:Int):Option Int:=
if (decide ((IntKind.i64.wrap (a1-(a0.length:Int)))<0))=true then
some (-1)
else
some (IntKind.i64.wrap (a1-(a0.length:Int)))
noncomputable def g91 (a0:List Int) (a1:Int):Option Int:=
if (decide ((IntKind.i64.wrap (a1-(a0.length:Int)))<0))=true then
some (-1)
else
some (IntKind.i64.wrap (a1-(a0.length:Int)))
noncomputable def g45 (a0:Ap) (a1:Int):Option Int:=
(g17 a0.Ac a1).bind fun r1=>
if (decide (r1<0))=true then
some (-1)
else
(g90 a0.Ab r1).bind fun r4=>
if (decide (r4<0))=true then
some (-1)
else
(g91 a0.Ah r4).bind fun r7=>
if (decide (r7<0))=true then
some (-1)
else
some r7
noncomputable def g104 (a0:Aa):Option Aa:=
some a0
noncomputable def Vh (a0:List Aa) (s:(List Aa)×Int):Option (((List Aa)×Int)⊕((List Aa))):=
match s with
| (p12,p13)=>
if (decide (p13<(a0.length:Int)))=true then
(Co a0 p13).bind fun y27=>
(g104 y27).bind fun r29=>
(Co p12 p13).bind fun y31=>
(p12[p13.toNat]?).bind fun y33=>
some (.inl ((p12.set p13.toNat r29),(IntKind.i64.wrap (p13+1))))
else
some (.inr p12)
noncomputable def g57 (a0:List Aa):Option (List Aa):=
if 0≤(a0.length:Int) then
if (a0.length:Int)*32≤140737488355328 then
(Ca (Vh a0) ((List.replicate (a0.length:Int).toNat (Aa.mk 0 0 0 false)),0)).bind fun r35=>
(match r35 with
| p25=>
some p25)
else none
else none
noncomputable def g19 (a0:Ar):Option Ar:=
(g57 a0.Ae).bind fun r1=>
some (Ar.mk a0.clock a0.next r1)
noncomputable def Zo (a0:List Int) (s:(List Int)×Int):Option (((List Int)×Int)⊕((List Int))):=
match s with
| (p10,p11)=>
if (decide (p11<(a0.length:Int)))=true then
(Co a0 p11).bind fun y23=>
(Co p10 p11).bind fun y25=>
(p10[p11.toNat]?).bind fun y27=>
some (.inl ((p10.set p11.toNat y23),(IntKind.i64.wrap (p11+1))))
else
some (.inr p10)
noncomputable def g43 (a0:List Int):Option (List Int):=
if 0≤(a0.length:Int) then
if (a0.length:Int)*8≤140737488355328 then
(Ca (Zo a0) ((List.replicate (a0.length:Int).toNat 0),0)).bind fun r29=>
(match r29 with
| p21=>
some p21)
else none
else none
noncomputable def g125 (a0:Aj):Option Aj:=
some a0
noncomputable def Vn (a0:List Aj) (s:(List Aj)×Int):Option (((List Aj)×Int)⊕((List Aj))):=
match s with
| (p12,p13)=>
if (decide (p13<(a0.length:Int)))=true then
(Co a0 p13).bind fun y27=>
(g125 y27).bind fun r29=>
(Co p12 p13).bind fun y31=>
(p12[p13.toNat]?).bind fun y33=>
some (.inl ((p12.set p13.toNat r29),(IntKind.i64.wrap (p13+1))))
else
some (.inr p12)
noncomputable def g94 (a0:List Aj):Option (List Aj):=
if 0≤(a0.length:Int) then
if (a0.length:Int)*16≤140737488355328 then
(Ca (Vn a0) ((List.replicate (a0.length:Int).toNat (Aj.mk 0 false)),0)).bind fun r35=>
(match r35 with
| p25=>
some p25)
else none
else none
noncomputable def g47 (a0:Ap):Option Ap:=
(g19 a0.Ac).bind fun r1=>
(g94 a0.Ab).bind fun r3=>
(g43 a0.Ah).bind fun r5=>
some (Ap.mk r1 r3 r5 a0.An)
noncomputable def AcJ (a0:Aa) (a1:Aa):Option Bool:=
if (a0.id != a1.id)=true then
some false
else
if (a0.Bg != a1.Bg)=true then
some false
else
if (a0.cap != a1.cap)=true then
some false
else
if (!(a0.Bz==a1.Bz))=true then
some false
else
some true
noncomputable def Zr (a0:List Aa) (a1:List Aa) (s:Int):Option ((Int)⊕(Unit⊕Bool)):=
match s with
| p10=>
if (decide (p10<(a0.length:Int)))=true then
(Co a0 p10).bind fun y21=>
(Co a1 p10).bind fun y23=>
(AcJ y21 y23).bind fun r25=>
if (!r25)=true then
some (.inr (.inr false))
else
some (.inl (IntKind.i64.wrap (p10+1)))
else
some (.inr (.inl ()))
noncomputable def g64 (a0:List Aa) (a1:List Aa):Option Bool:=
if ((a0.length:Int) != (a1.length:Int))=true then
some false
else
(Ca (Zr a0 a1) 0).bind fun r28=>
(match r28 with
| .inl ()=>
some true
| .inr q=>some q)
noncomputable def g21 (a0:Ar) (a1:Ar):Option Bool:=
if (a0.clock != a1.clock)=true then
some false
else
if (a0.next != a1.next)=true then
some false
else
(g64 a0.Ae a1.Ae).bind fun r3=>
if (!r3)=true then
some false
else
some true
noncomputable def Zm (a0:List Int) (a1:List Int) (s:Int):Option ((Int)⊕(Unit⊕Bool)):=
match s with
| p8=>
if (decide (p8<(a0.length:Int)))=true then
(Co a0 p8).bind fun y17=>
(Co a1 p8).bind fun y19=>
if (y17 != y19)=true then
some (.inr (.inr false))
else
some (.inl (IntKind.i64.wrap (p8+1)))
else
some (.inr (.inl ()))
noncomputable def g36 (a0:List Int) (a1:List Int):Option Bool:=
if ((a0.length:Int) != (a1.length:Int))=true then
some false
else
(Ca (Zm a0 a1) 0).bind fun r22=>
(match r22 with
| .inl ()=>
some true
| .inr q=>some q)
noncomputable def CE (a0:Aj) (a1:Aj):Option Bool:=
if (a0.Ay != a1.Ay)=true then
some false
else
if (!(a0.Ji==a1.Ji))=true then
some false
else
some true
noncomputable def Zy (a0:List Aj) (a1:List Aj) (s:Int):Option ((Int)⊕(Unit⊕Bool)):=
match s with
| p10=>
if (decide (p10<(a0.length:Int)))=true then
(Co a0 p10).bind fun y21=>
(Co a1 p10).bind fun y23=>
(CE y21 y23).bind fun r25=>
if (!r25)=true then
some (.inr (.inr false))
else
some (.inl (IntKind.i64.wrap (p10+1)))
else
some (.inr (.inl ()))
noncomputable def g99 (a0:List Aj) (a1:List Aj):Option Bool:=
if ((a0.length:Int) != (a1.length:Int))=true then
some false
else
(Ca (Zy a0 a1) 0).bind fun r28=>
(match r28 with
| .inl ()=>
some true
| .inr q=>some q)
noncomputable def g49 (a0:Ap) (a1:Ap):Option Bool:=
(g21 a0.Ac a1.Ac).bind fun r1=>
if (!r1)=true then
some false
else
(g99 a0.Ab a1.Ab).bind fun r4=>
if (!r4)=true then
some false
else
(g36 a0.Ah a1.Ah).bind fun r7=>
if (!r7)=true then
some false
else
if (!(a0.An==a1.An))=true then
some false
else
some true
noncomputable def Vi  (s:(List Aa)×Int×Int):Option (((List Aa)×Int×Int)⊕((List Aa)×Int)):=
match s with
| (p26,p27,p28)=>
if (decide (p28<(p26.length:Int)))=true then
(Co p26 p28).bind fun y60=>
(p26[p28.toNat]?).bind fun y62=>
(Co (p26.set p28.toNat (Aa.mk p27 y62.Bg y62.cap y62.Bz)) p28).bind fun y64=>
((p26.set p28.toNat (Aa.mk p27 y62.Bg y62.cap y62.Bz))[p28.toNat]?).bind fun y66=>
Bx ((p26.set p28.toNat (Aa.mk p27 y62.Bg y62.cap y62.Bz)).set p28.toNat (Aa.mk y66.id (IntKind.i64.wrap (p27+1)) y66.cap y66.Bz)) fun v68=>
(Co v68 p28).bind fun y70=>
(v68[p28.toNat]?).bind fun y72=>
Bx (v68.set p28.toNat (Aa.mk y72.id y72.Bg (IntKind.i64.wrap ((IntKind.i64.wrap (p27+1))+1)) y72.Bz)) fun v74=>
Bx (IntKind.i64.wrap ((IntKind.i64.wrap ((IntKind.i64.wrap (p27+1))+1))+1)) fun v76=>
(Co v74 p28).bind fun y78=>
(v74[p28.toNat]?).bind fun y80=>
Bx (v74.set p28.toNat (Aa.mk y80.id y80.Bg y80.cap (((v76).tmod 3)==0))) fun v82=>
some (.inl (v82,(IntKind.i64.wrap (v76+1)),(IntKind.i64.wrap (p28+1))))
else
some (.inr (p26,p27))
noncomputable def g72 (a0:List Aa) (a1:Int):Option (Int×(List Aa)):=
(Ca (Vi) (a0,a1,0)).bind fun r84=>
(match r84 with
| (p57,p58)=>
some (p58,p57))
noncomputable def g26 (a0:Ar) (a1:Int):Option (Int×(List Aa)):=
(g72 a0.Ae a1).bind fun r1=>
if r1.2.length=a0.Ae.length then
some (r1.1,r1.2)
else none
noncomputable def Zn  (s:(List Int)×Int×Int):Option (((List Int)×Int×Int)⊕((List Int)×Int)):=
match s with
| (p6,p7,p8)=>
if (decide (p8<(p6.length:Int)))=true then
(Co p6 p8).bind fun y20=>
(p6[p8.toNat]?).bind fun y22=>
some (.inl ((p6.set p8.toNat p7),(IntKind.i64.wrap (p7+1)),(IntKind.i64.wrap (p8+1))))
else
some (.inr (p6,p7))
noncomputable def g37 (a0:List Int) (a1:Int):Option (Int×(List Int)):=
(Ca (Zn) (a0,a1,0)).bind fun r24=>
(match r24 with
| (p17,p18)=>
some (p18,p17))
noncomputable def Tr  (s:(List Aj)×Int×Int):Option (((List Aj)×Int×Int)⊕((List Aj)×Int)):=
match s with
| (p12,p13,p14)=>
if (decide (p14<(p12.length:Int)))=true then
(Co p12 p14).bind fun y32=>
(p12[p14.toNat]?).bind fun y34=>
(Co (p12.set p14.toNat (Aj.mk p13 y34.Ji)) p14).bind fun y36=>
((p12.set p14.toNat (Aj.mk p13 y34.Ji))[p14.toNat]?).bind fun y38=>
Bx ((p12.set p14.toNat (Aj.mk p13 y34.Ji)).set p14.toNat (Aj.mk y38.Ay ((((IntKind.i64.wrap (p13+1))).tmod 3)==0))) fun v40=>
some (.inl (v40,(IntKind.i64.wrap ((IntKind.i64.wrap (p13+1))+1)),(IntKind.i64.wrap (p14+1))))
else
some (.inr (p12,p13))
noncomputable def Adt (a0:List Aj) (a1:Int):Option (Int×(List Aj)):=
(Ca (Tr) (a0,a1,0)).bind fun r42=>
(match r42 with
| (p29,p30)=>
some (p30,p29))
noncomputable def iY (a0:Ap) (a1:Int):Option (Int×(List Aa)×(List Aj)×(List Int)):=
(g26 a0.Ac a1).bind fun r1=>
if r1.2.length=a0.Ac.Ae.length then
(Adt a0.Ab r1.1).bind fun r4=>
if r4.2.length=a0.Ab.length then
(g37 a0.Ah r4.1).bind fun r7=>
if r7.2.length=a0.Ah.length then
some (r7.1,r1.2,r4.2,r7.2)
else none
else none
else none
noncomputable def Vj (a0:List Aa) (s:Int×Int):Option ((Int×Int)⊕(Int⊕Int)):=
match s with
| (p16,p17)=>
if (decide (p17<(a0.length:Int)))=true then
(Co a0 p17).bind fun y37=>
if (y37.id != p16)=true then
some (.inr (.inr (-1)))
else
(Co a0 p17).bind fun y40=>
if (y40.Bg != (IntKind.i64.wrap (p16+1)))=true then
some (.inr (.inr (-1)))
else
(Co a0 p17).bind fun y43=>
if (y43.cap != (IntKind.i64.wrap ((IntKind.i64.wrap (p16+1))+1)))=true then
some (.inr (.inr (-1)))
else
Bx (IntKind.i64.wrap ((IntKind.i64.wrap ((IntKind.i64.wrap (p16+1))+1))+1)) fun v46=>
(Co a0 p17).bind fun y48=>
if (!(y48.Bz==(((v46).tmod 3)==0)))=true then
some (.inr (.inr (-1)))
else
some (.inl ((IntKind.i64.wrap (v46+1)),(IntKind.i64.wrap (p17+1))))
else
some (.inr (.inl p16))
noncomputable def g73 (a0:List Aa) (a1:Int):Option Int:=
(Ca (Vj a0) (a1,0)).bind fun r51=>
(match r51 with
| .inl p35=>
some p35
| .inr q=>some q)
noncomputable def g27 (a0:Ar) (a1:Int):Option Int:=
(g73 a0.Ae a1).bind fun r1=>
if (decide (r1<0))=true then
some (-1)
else
some r1
noncomputable def Vg (a0:List Int) (s:Int×Int):Option ((Int×Int)⊕(Int⊕Int)):=
match s with
| (p5,p6)=>
if (decide (p6<(a0.length:Int)))=true then
(Co a0 p6).bind fun y15=>
if (y15 != p5)=true then
some (.inr (.inr (-1)))
else
some (.inl ((IntKind.i64.wrap (p5+1)),(IntKind.i64.wrap (p6+1))))
else
some (.inr (.inl p5))
noncomputable def g38 (a0:List Int) (a1:Int):Option Int:=
(Ca (Vg a0) (a1,0)).bind fun r18=>
(match r18 with
| .inl p13=>
some p13
| .inr q=>some q)
noncomputable def Qs (a0:List Aj) (s:Int×Int):Option ((Int×Int)⊕(Int⊕Int)):=
match s with
| (p8,p9)=>
if (decide (p9<(a0.length:Int)))=true then
(Co a0 p9).bind fun y21=>
if (y21.Ay != p8)=true then
some (.inr (.inr (-1)))
else
(Co a0 p9).bind fun y24=>
if (!(y24.Ji==((((IntKind.i64.wrap (p8+1))).tmod 3)==0)))=true then
some (.inr (.inr (-1)))
else
some (.inl ((IntKind.i64.wrap ((IntKind.i64.wrap (p8+1))+1)),(IntKind.i64.wrap (p9+1))))
else
some (.inr (.inl p8))
noncomputable def Adu (a0:List Aj) (a1:Int):Option Int:=
(Ca (Qs a0) (a1,0)).bind fun r27=>
(match r27 with
| .inl p19=>
some p19
| .inr q=>some q)
noncomputable def CK (a0:Ap) (a1:Int):Option Int:=
(g27 a0.Ac a1).bind fun r1=>
if (decide (r1<0))=true then
some (-1)
else
(Adu a0.Ab r1).bind fun r4=>
if (decide (r4<0))=true then
some (-1)
else
(g38 a0.Ah r4).bind fun r7=>
if (decide (r7<0))=true then
some (-1)
else
some r7
noncomputable def rD (a0:Int) (a1:Int) (a2:Int):Option Bool:=
some (bif (decide (a1≤a0)) then (decide (a0≤a2)) else false)
noncomputable def g58 (a0:Int):Option Bool:=
(rD a0 1 1000000).bind fun r1=>
some r1
noncomputable def Zq (a0:List Int) (a1:Int) (a2:Int) (s:Int):Option ((Int)⊕(Unit⊕Bool)):=
match s with
| p11=>
if (decide (p11<(a0.length:Int)))=true then
(Co a0 p11).bind fun y24=>
(rD y24 a1 a2).bind fun r26=>
(if (((!r26)==false)&&((decide (p11>0))==true))=true then Co a0 (IntKind.i64.wrap (p11-1)) else some default).bind fun y28=>
Bx ((bif (!r26) then true else (bif (decide (p11>0)) then (decide (y28≥y24)) else false))) fun v30=>
if v30=true then
some (.inr (.inr false))
else
some (.inl (IntKind.i64.wrap (p11+1)))
else
some (.inr (.inl ()))
noncomputable def g59 (a0:List Int) (a1:Int) (a2:Int):Option Bool:=
(Ca (Zq a0 a1 a2) 0).bind fun r33=>
(match r33 with
| .inl ()=>
some true
| .inr q=>some q)
noncomputable def Na (a0:Ar) (s:(List Int)×Int):Option (((List Int)×Int)⊕((List Int))):=
match s with
| (p5,p6)=>
if (decide (p6<(a0.Ae.length:Int)))=true then
(Co a0.Ae p6).bind fun y15=>
if (p5.length+([y15.id]:List Int).length)*8≤140737488355328 then
some (.inl ((p5++([y15.id]:List Int)),(IntKind.i64.wrap (p6+1))))
else none
else
some (.inr p5)
noncomputable def g60 (a0:Ar):Option (List Int):=
(Ca (Na a0) ([],0)).bind fun r18=>
(match r18 with
| p13=>
some p13)
noncomputable def Ql (a0:List Aa) (is1:Aa→Option Bool) (s:Int):Option ((Int)⊕(Unit⊕Int)):=
match s with
| p7=>
if (decide (p7<(a0.length:Int)))=true then
(Co a0 p7).bind fun y16=>
(is1 y16).bind fun r18=>
if r18=true then
some (.inr (.inr p7))
else
some (.inl (IntKind.i64.wrap (p7+1)))
else
some (.inr (.inl ()))
noncomputable def CA (a0:List Aa) (is1:Aa→Option Bool):Option Int:=
(Ca (Ql a0 is1) 0).bind fun r21=>
(match r21 with
| .inl ()=>
some (-1)
| .inr q=>some q)
noncomputable def g105 (a0:List Aa) (is1:Aa→Option Bool):Option Bool:=
(CA a0 is1).bind fun r1=>
some (decide (r1≥0))
noncomputable def BZ (a0:Aa) (is1:Aa→Option Bool):Option Bool:=
(is1 a0).bind fun r1=>
some (!r1)
noncomputable def g61 (a0:List Aa) (is1:Aa→Option Bool):Option Bool:=
(g105 a0 (fun z106_0=>BZ z106_0 is1)).bind fun r1=>
some (!r1)
noncomputable def g62 (a0:Aa) (a1:Ar):Option Bool:=
(rD a0.Bg 0 a0.cap).bind fun r1=>
Bx ((bif r1 then (bif a0.Bz then true else (decide (a0.Bg>a1.clock))) else false)) fun v3=>
some v3
noncomputable def g20 (a0:Ar):Option Bool:=
(if ((decide (a0.clock≥0))==true)=true then g58 a0.next else some default).bind fun r1=>
(if ((bif (bif (decide (a0.clock≥0)) then r1 else false) then (decide ((a0.Ae.length:Int)≤40)) else false)==true)=true then g60 a0 else some default).bind fun r3=>
(if ((bif (bif (decide (a0.clock≥0)) then r1 else false) then (decide ((a0.Ae.length:Int)≤40)) else false)==true)=true then g59 r3 1 (IntKind.i64.wrap (a0.next-1)) else some default).bind fun r5=>
(if ((bif (bif (bif (decide (a0.clock≥0)) then r1 else false) then (decide ((a0.Ae.length:Int)≤40)) else false) then r5 else false)==true)=true then g61 a0.Ae (fun z62_0=>g62 z62_0 a0) else some default).bind fun r7=>
Bx ((bif (bif (bif (bif (decide (a0.clock≥0)) then r1 else false) then (decide ((a0.Ae.length:Int)≤40)) else false) then r5 else false) then r7 else false)) fun v9=>
some v9
noncomputable def Zx (a0:List Aj) (s:(List Int)×Int):Option (((List Int)×Int)⊕((List Int))):=
match s with
| (p5,p6)=>
if (decide (p6<(a0.length:Int)))=true then
(Co a0 p6).bind fun y15=>
if (p5.length+([y15.Ay]:List Int).length)*8≤140737488355328 then
some (.inl ((p5++([y15.Ay]:List Int)),(IntKind.i64.wrap (p6+1))))
else none
else
some (.inr p5)
noncomputable def g95 (a0:List Aj):Option (List Int):=
(Ca (Zx a0) ([],0)).bind fun r18=>
(match r18 with
| p13=>
some p13)
def AcY (a0:List Int) (a1:Int):Option (List Int):=if 0≤a1∧(a0.length:Int)+a1≤17592186044416 then some a0 else none
noncomputable def Xt (p7:Int) (p20:Int):Option ((Int×Int)⊕(Int)):=
some (.inl (p20,(IntKind.i64.wrap (p7+1))))
noncomputable def Lk (a0:List (List Int)) (s:Int×Int):Option ((Int×Int)⊕(Int)):=
match s with
| (p6,p7)=>
if (decide (p7<(a0.length:Int)))=true then
(Co a0 p7).bind fun y22=>
if (decide ((IntKind.i64.wrap (p6+(y22.length:Int)))<0))=true then
none
else
Xt p7 (IntKind.i64.wrap (p6+(y22.length:Int)))
else
some (.inr p6)
noncomputable def Ll (a0:List (List Int)) (s:(List Int)×Int):Option (((List Int)×Int)⊕((List Int))):=
match s with
| (p33,p34)=>
if (decide (p34<(a0.length:Int)))=true then
(Co a0 p34).bind fun y43=>
if (p33.length+y43.length)*8≤140737488355328 then
some (.inl ((p33++y43),(IntKind.i64.wrap (p34+1))))
else none
else
some (.inr p33)
noncomputable def AcR (a0:List (List Int)):Option (List Int):=
(Ca (Lk a0) (0,0)).bind fun r25=>
(match r25 with
| p15=>
(AcY ([]:List Int) p15).bind fun r27=>
(Ca (Ll a0) (r27,0)).bind fun r46=>
(match r46 with
| p41=>
some p41))
noncomputable def oK (a0:List Int) (is1:Int→Option Bool) (s:Int):Option ((Int)⊕(Unit⊕Int)):=
match s with
| p7=>
if (decide (p7<(a0.length:Int)))=true then
(Co a0 p7).bind fun y16=>
(is1 y16).bind fun r18=>
if r18=true then
some (.inr (.inr p7))
else
some (.inl (IntKind.i64.wrap (p7+1)))
else
some (.inr (.inl ()))
noncomputable def AcS (a0:List Int) (is1:Int→Option Bool):Option Int:=
(Ca (oK a0 is1) 0).bind fun r21=>
(match r21 with
| .inl ()=>
some (-1)
| .inr q=>some q)
noncomputable def CD (a0:Int) (a1:List (Int×Bool)):Option Bool:=
some (!(Mn a1 a0))
noncomputable def Vo (r5:(List Int)) (s:Int×(List (Int×Bool))):Option ((Int×(List (Int×Bool)))⊕((List (Int×Bool)))):=
match s with
| (p12,p13)=>
if (decide (p12<(r5.length:Int)))=true then
(Co r5 p12).bind fun y23=>
(r5[p12.toNat]?).bind fun y25=>
some (.inl ((IntKind.i64.wrap (p12+1)),(Rm p13 y25 true)))
else
some (.inr p13)
noncomputable def g96 (a0:Ap):Option (Int×Bool):=
(g60 a0.Ac).bind fun r1=>
(g95 a0.Ab).bind fun r3=>
(AcR ([r1,r3]:List (List Int))).bind fun r5=>
(Ca (Vo r5) (0,([]:List (Int×Bool)))).bind fun r27=>
(match r27 with
| p21=>
(AcS a0.Ah (fun z128_0=>CD z128_0 p21)).bind fun r29=>
if (decide (r29<0))=true then
some (0,false)
else
(Co a0.Ah r29).bind fun y32=>
some (y32,true))
noncomputable def AcT (a0:List Int) (is1:Int→Option Bool):Option Bool:=
(AcS a0 is1).bind fun r1=>
some (decide (r1≥0))
noncomputable def AcV (a0:Int) (is1:Int→Option Bool):Option Bool:=
(is1 a0).bind fun r1=>
some (!r1)
noncomputable def g97 (a0:List Int) (is1:Int→Option Bool):Option Bool:=
(AcT a0 (fun z130_0=>AcV z130_0 is1)).bind fun r1=>
some (!r1)
noncomputable def Xq (a0:List Aa) (a1:Int) (is2:Aa→Int→Option Int) (s:Int×Int):Option ((Int×Int)⊕(Int)):=
match s with
| (p9,p10)=>
if (decide (p9<p10))=true then
Bx (IntKind.i64.wrap (Nd .u64 (IntKind.u64.wrap (IntKind.i64.wrap (p9+p10))) 1)) fun v23=>
(Co a0 v23).bind fun y25=>
(is2 y25 a1).bind fun r27=>
if (decide (r27<0))=true then
some (.inl ((IntKind.i64.wrap (v23+1)),p10))
else
some (.inl (p9,v23))
else
some (.inr p9)
noncomputable def g113 (a0:List Aa) (a1:Int) (is2:Aa→Int→Option Int):Option (Int×Bool):=
(Ca (Xq a0 a1 is2) (0,(a0.length:Int))).bind fun r30=>
(match r30 with
| p21=>
(if ((decide (p21<(a0.length:Int)))==true)=true then Co a0 p21 else some default).bind fun y32=>
(if ((decide (p21<(a0.length:Int)))==true)=true then is2 y32 a1 else some default).bind fun r34=>
some (p21,(bif (decide (p21<(a0.length:Int))) then (r34==0) else false)))
noncomputable def iX (a0:Int):Option Bool:=
some (a0 != a0)
noncomputable def qS (a0:Int) (a1:Int):Option Int:=
(iX a0).bind fun r1=>
(iX a1).bind fun r3=>
if r1=true then
if r3=true then
some 0
else
some (-1)
else
if r3=true then
some 1
else
if (decide (a0<a1))=true then
some (-1)
else
if (decide (a0>a1))=true then
some 1
else
some 0
noncomputable def qT (a0:Aa) (a1:Int):Option Int:=
(qS a0.id a1).bind fun r1=>
some r1
noncomputable def GF (a0:Ar) (a1:Int):Option (Int×Bool):=
(g113 a0.Ae a1 (fun z114_0 z114_1=>qT z114_0 z114_1)).bind fun r1=>
some (r1.1,r1.2)
noncomputable def g98 (a0:Int) (a1:Ap):Option Bool:=
(GF a1.Ac a0).bind fun r1=>
some (!r1.2)
noncomputable def g48 (a0:Ap):Option Bool:=
(g20 a0.Ac).bind fun r1=>
(if ((bif (!r1) then true else (decide ((a0.Ab.length:Int)>40)))==false)=true then g95 a0.Ab else some default).bind fun r3=>
(if ((bif (!r1) then true else (decide ((a0.Ab.length:Int)>40)))==false)=true then g59 r3 1 (IntKind.i64.wrap (a0.Ac.next-1)) else some default).bind fun r5=>
(if ((bif (bif (bif (!r1) then true else (decide ((a0.Ab.length:Int)>40))) then true else (!r5)) then true else (decide ((a0.Ah.length:Int)>80)))==false)=true then g59 a0.Ah 1 (IntKind.i64.wrap (a0.Ac.next-1)) else some default).bind fun r7=>
Bx ((bif (bif (bif (bif (!r1) then true else (decide ((a0.Ab.length:Int)>40))) then true else (!r5)) then true else (decide ((a0.Ah.length:Int)>80))) then true else (!r7))) fun v9=>
if v9=true then
some false
else
(g96 a0).bind fun r12=>
(if ((!r12.2)==true)=true then g95 a0.Ab else some default).bind fun r14=>
(if ((!r12.2)==true)=true then g97 r14 (fun z98_0=>g98 z98_0 a0) else some default).bind fun r16=>
some (bif (!r12.2) then r16 else false)
noncomputable def g87 (a0:List Int):Option Bool:=
some (decide ((a0.length:Int)≤4096))
noncomputable def g88 (a0:Int):Option Bool:=
(rD a0 0 2).bind fun r1=>
some r1
noncomputable def Adz (a0:Bc):Option Bool:=
(g87 a0.Bu).bind fun r1=>
(if (r1==true)=true then g97 a0.Bu (fun z88_0=>g88 z88_0) else some default).bind fun r3=>
(if ((bif r1 then r3 else false)==true)=true then rD a0.stop 0 2 else some default).bind fun r5=>
some (bif (bif r1 then r3 else false) then r5 else false)
def g66 (a0:List Aa):Option (List Aa):=if ([]:List Aa).length+a0.length≤4398046511104 then some a0 else none
noncomputable def eY (a0:Ar):Option Ar:=
(g66 a0.Ae).bind fun r1=>
some (Ar.mk a0.clock a0.next r1)
noncomputable def g75 (a0:Ar) (a1:Int):Option (Ar×Int):=
(GF a0 a1).bind fun r1=>
if (!r1.2)=true then
some ((Ar.mk 0 0 ([]:List Aa)),5)
else
(eY a0).bind fun r4=>
(Co r4.Ae r1.1).bind fun y6=>
(r4.Ae[r1.1.toNat]?).bind fun y8=>
some ((Ar.mk r4.clock r4.next (r4.Ae.set r1.1.toNat (Aa.mk y8.id y8.Bg y8.cap true))),0)
noncomputable def g54 (a0:Int) (a1:Int):Option Int:=
if (decide (a0>(IntKind.i64.wrap (9223372036854775807-a1))))=true then
some 9223372036854775807
else
some (IntKind.i64.wrap (a0+a1))
noncomputable def g80 (a0:Ar) (a1:Int) (a2:Int):Option (Ar×Int):=
(GF a0 a1).bind fun r1=>
if (decide (a2<1))=true then
some ((Ar.mk 0 0 ([]:List Aa)),4)
else
if (!r1.2)=true then
some ((Ar.mk 0 0 ([]:List Aa)),5)
else
(Co a0.Ae r1.1).bind fun y5=>
if y5.Bz=true then
some ((Ar.mk 0 0 ([]:List Aa)),13)
else
(eY a0).bind fun r8=>
(Co r8.Ae r1.1).bind fun y10=>
(r8.Ae[r1.1.toNat]?).bind fun y12=>
(g54 a0.clock a2).bind fun r14=>
Bx (r8.Ae.set r1.1.toNat (Aa.mk y12.id (if y12.cap<r14 then y12.cap else r14) y12.cap y12.Bz)) fun v16=>
some ((Ar.mk r8.clock r8.next v16),0)
def lK (a0:List Int):Option (List Int):=if ([]:List Int).length+a0.length≤17592186044416 then some a0 else none
def mC (a0:List Aj):Option (List Aj):=if ([]:List Aj).length+a0.length≤8796093022208 then some a0 else none
noncomputable def AdA (a0:Ap):Option Ap:=
(eY a0.Ac).bind fun r1=>
(mC a0.Ab).bind fun r3=>
(lK a0.Ah).bind fun r5=>
some (Ap.mk r1 r3 r5 a0.An)
noncomputable def bX (a0:Ap) (a1:Int):Option (Ap×Aw):=
some (a0,(Aw.mk a1 0))
noncomputable def g71 (a0:Ar) (a1:Int) (a2:Int):Option (Ar×Int×Int):=
if (bif (decide (a1<1)) then true else (decide (a2<a1)))=true then
some ((Ar.mk 0 0 ([]:List Aa)),0,4)
else
if (a0.clock==9223372036854775807)=true then
some ((Ar.mk 0 0 ([]:List Aa)),0,11)
else
Bx ((bif ((a0.Ae.length:Int)==40) then true else (a0.next==1000000))) fun v3=>
if v3=true then
some ((Ar.mk 0 0 ([]:List Aa)),0,9)
else
(eY a0).bind fun r6=>
(g54 a0.clock a1).bind fun r8=>
(g54 a0.clock a2).bind fun r10=>
if (r6.Ae.length+([(Aa.mk a0.next r8 r10 false)]:List Aa).length)*32≤140737488355328 then
some ((Ar.mk r6.clock (IntKind.i64.wrap (r6.next+1)) (r6.Ae++([(Aa.mk a0.next r8 r10 false)]:List Aa))),a0.next,0)
else none
noncomputable def Qw (a0:Ap) (s:Int×(List Aj)):Option ((Int×(List Aj))⊕((List Aj))):=
match s with
| (p6,p7)=>
if (decide (p6<(a0.Ab.length:Int)))=true then
(Co p7 p6).bind fun y17=>
(p7[p6.toNat]?).bind fun y19=>
some (.inl ((IntKind.i64.wrap (p6+1)),(p7.set p6.toNat (Aj.mk y19.Ay true))))
else
some (.inr p7)
noncomputable def fJ (a0:Ap):Option (Ap×Aw):=
(Ca (Qw a0) (0,a0.Ab)).bind fun r21=>
(match r21 with
| p15=>
some ((Ap.mk a0.Ac p15 a0.Ah true),(Aw.mk 15 0)))
noncomputable def AcX (a0:Int) (a1:Int):Option Bool:=
(iX a0).bind fun r1=>
(if (r1==true)=true then iX a1 else some default).bind fun r3=>
Bx ((bif (bif r1 then (!r3) else false) then true else (decide (a0<a1)))) fun v5=>
some v5
noncomputable def CG (a0:Int):Option Bool:=
some (a0 != a0)
noncomputable def Xr (a0:List Int) (a1:Int) (s:Int×Int):Option ((Int×Int)⊕(Int)):=
match s with
| (p9,p10)=>
if (decide (p9<p10))=true then
Bx (IntKind.i64.wrap (Nd .u64 (IntKind.u64.wrap (IntKind.i64.wrap (p9+p10))) 1)) fun v23=>
(Co a0 v23).bind fun y25=>
(AcX y25 a1).bind fun r27=>
if r27=true then
some (.inl ((IntKind.i64.wrap (v23+1)),p10))
else
some (.inl (p9,v23))
else
some (.inr p9)
noncomputable def AcO (a0:List Int) (a1:Int):Option (Int×Bool):=
(Ca (Xr a0 a1) (0,(a0.length:Int))).bind fun r30=>
(match r30 with
| p21=>
(if ((decide (p21<(a0.length:Int)))==true)=true then Co a0 p21 else some default).bind fun y32=>
(if (((decide (p21<(a0.length:Int)))==true)&&((y32==a1)==false))=true then Co a0 p21 else some default).bind fun y34=>
(if (((decide (p21<(a0.length:Int)))==true)&&((y32==a1)==false))=true then CG y34 else some default).bind fun r36=>
(if ((((decide (p21<(a0.length:Int)))==true)&&((y32==a1)==false))&&(r36==true))=true then CG a1 else some default).bind fun r38=>
Bx ((bif (decide (p21<(a0.length:Int))) then (bif (y32==a1) then true else (bif r36 then r38 else false)) else false)) fun v40=>
some (p21,v40))
def g122 (a0:List Int) (a1:Int) (a2:List Int):Option ((List Int)×(List Int)):=if (0≤a1∧a1≤(a0.length:Int))∧0<a2.length∧a0.length+a2.length≤17592186044416 then some (a0.take a1.toNat++a2++a0.drop a1.toNat,a2) else none
def g123 (a0:List Int) (a1:Int) (a2:Int):Option (List Int):=if (0≤a1∧a1≤a2∧a2≤(a0.length:Int))∧a0.length≤17592186044416 then some (a0.take a1.toNat++a0.drop a2.toNat) else none
noncomputable def Vm (a3:Int) (p13:List Int):Option ((List Int)×Int):=
if (a3==2)=true then
some (p13,15)
else
some (p13,0)
noncomputable def g89 (a0:List Int) (a1:Int) (a2:Bool) (a3:Int):Option ((List Int)×Int):=
(lK a0).bind fun r1=>
if (a3==1)=true then
some (r1,13)
else
(AcO r1 a1).bind fun r4=>
if (bif a2 then (!r4.2) else false)=true then
(g122 r1 r4.1 ([a1]:List Int)).bind fun r17=>
if r17.2.length=([a1]:List Int).length then
Vm a3 r17.1
else none
else
if (bif (!a2) then r4.2 else false)=true then
(g123 r1 r4.1 (IntKind.i64.wrap (r4.1+1))).bind fun r21=>
Vm a3 r21
else
Vm a3 r1
noncomputable def Tv (a0:Cx) (a1:Int) (a2:Bool) (p4:Int):Option (Int×Cx):=
(g89 a0.v.Ah a1 a2 p4).bind fun r5=>
some (r5.2,(Cx.mk (Ap.mk a0.v.Ac a0.v.Ab r5.1 a0.v.An) a0.a (IntKind.i64.wrap (a0.Gm+1))))
noncomputable def fK (a0:Cx) (a1:Int) (a2:Bool):Option (Int×Cx):=
if (decide (a0.Gm<(a0.a.Bu.length:Int)))=true then
(Co a0.a.Bu a0.Gm).bind fun y9=>
Tv a0 a1 a2 y9
else
Tv a0 a1 a2 0
noncomputable def Jx (a0:Ap) (a1:Bc) (r1:Ar×Int×Int) (p4:Int):Option (Ap×Aw):=
if (p4 != 0)=true then
(bX a0 p4).bind fun r6=>
some (r6.1,r6.2)
else
if (a0.Ab.length+([(Aj.mk r1.2.1 false)]:List Aj).length)*16≤140737488355328 then
if (a1.stop==1)=true then
(fJ (Ap.mk (Ar.mk a0.Ac.clock (IntKind.i64.wrap (a0.Ac.next+1)) a0.Ac.Ae) (a0.Ab++([(Aj.mk r1.2.1 false)]:List Aj)) a0.Ah a0.An)).bind fun r10=>
some (r10.1,r10.2)
else
(fK (Cx.mk (Ap.mk (Ar.mk a0.Ac.clock (IntKind.i64.wrap (a0.Ac.next+1)) a0.Ac.Ae) (a0.Ab++([(Aj.mk r1.2.1 false)]:List Aj)) a0.Ah a0.An) a1 0) r1.2.1 true).bind fun r12=>
if (a1.stop==2)=true then
(fJ r12.2.v).bind fun r15=>
some (r15.1,r15.2)
else
if (r12.1 != 0)=true then
(Co r12.2.v.Ab (IntKind.i64.wrap ((r12.2.v.Ab.length:Int)-1))).bind fun y18=>
(r12.2.v.Ab[(IntKind.i64.wrap ((r12.2.v.Ab.length:Int)-1)).toNat]?).bind fun y20=>
(bX (Ap.mk r12.2.v.Ac (r12.2.v.Ab.set ((IntKind.i64.wrap ((r12.2.v.Ab.length:Int)-1)).toNat) (Aj.mk y20.Ay true)) r12.2.v.Ah r12.2.v.An) r12.1).bind fun r22=>
some (r22.1,r22.2)
else
(cG r12.2.v.Ab 0 (IntKind.i64.wrap ((r12.2.v.Ab.length:Int)-1))).bind fun s24=>
some ((Ap.mk r1.1 s24 r12.2.v.Ah r12.2.v.An),(Aw.mk 0 r1.2.1))
else none
noncomputable def AdB (a0:Ap) (a1:Bc):Option (Ap×Aw):=
(g71 a0.Ac a1.ttl a1.Dr).bind fun r1=>
if (bif (r1.2.2==0) then ((a0.Ab.length:Int)==40) else false)=true then
Jx a0 a1 r1 9
else
Jx a0 a1 r1 r1.2.2
noncomputable def CP (a0:Ap) (a1:Ar) (a2:Int):Option (Ap×Aw):=
if (a2 != 0)=true then
(bX a0 a2).bind fun r2=>
some (r2.1,r2.2)
else
some ((Ap.mk a1 a0.Ab a0.Ah a0.An),(Aw.mk 0 0))
def g115 (a0:List Aa) (a1:Int) (a2:Int):Option (List Aa):=if (0≤a1∧a1≤a2∧a2≤(a0.length:Int))∧a0.length≤4398046511104 then some (a0.take a1.toNat++a0.drop a2.toNat) else none
noncomputable def g78 (a0:Ar) (a1:Int):Option Ar:=
(eY a0).bind fun r1=>
(g115 r1.Ae a1 (IntKind.i64.wrap (a1+1))).bind fun r3=>
some (Ar.mk r1.clock r1.next r3)
noncomputable def Td (a0:List Int) (s:Int):Option ((Int)⊕(Unit⊕Int)):=
match s with
| p5=>
if (decide (p5<(a0.length:Int)))=true then
(Co a0 p5).bind fun y12=>
if (y12 != 0)=true then
some (.inr (.inr y12))
else
some (.inl (IntKind.i64.wrap (p5+1)))
else
some (.inr (.inl ()))
noncomputable def AcM (a0:List Int):Option Int:=
(Ca (Td a0) 0).bind fun r15=>
(match r15 with
| .inl ()=>
some 0
| .inr q=>some q)
noncomputable def g69 (a0:Aa) (a1:Aa):Option Int:=
(qS a0.Bg a1.Bg).bind fun r1=>
(qS a0.id a1.id).bind fun r3=>
(AcM ([r1,r3]:List Int)).bind fun r5=>
some r5
noncomputable def Xw (a1:Int) (is3:Aa→Aa→Option Int) (s:(List Aa)×Int):Option (((List Aa)×Int)⊕((List Aa))):=
match s with
| (p136,p137)=>
(if ((decide (p137>a1))==true)=true then Co p136 p137 else some default).bind fun y164=>
(if ((decide (p137>a1))==true)=true then p136[p137.toNat]? else some default).bind fun y166=>
(if ((decide (p137>a1))==true)=true then Co p136 (IntKind.i64.wrap (p137-1)) else some default).bind fun y168=>
(if ((decide (p137>a1))==true)=true then p136[(IntKind.i64.wrap (p137-1)).toNat]? else some default).bind fun y170=>
(if ((decide (p137>a1))==true)=true then is3 y166 y170 else some default).bind fun r172=>
if (bif (decide (p137>a1)) then (decide (r172<0)) else false)=true then
(Co p136 (IntKind.i64.wrap (p137-1))).bind fun y175=>
(p136[(IntKind.i64.wrap (p137-1)).toNat]?).bind fun y177=>
(Co p136 p137).bind fun y179=>
(p136[p137.toNat]?).bind fun y181=>
(Co (p136.set p137.toNat y177) (IntKind.i64.wrap (p137-1))).bind fun y183=>
((p136.set p137.toNat y177)[(IntKind.i64.wrap (p137-1)).toNat]?).bind fun y185=>
some (.inl (((p136.set p137.toNat y177).set ((IntKind.i64.wrap (p137-1)).toNat) y181),(IntKind.i64.wrap (p137-1))))
else
some (.inr p136)
noncomputable def Xv (a1:Int) (a2:Int) (is3:Aa→Aa→Option Int) (s:(List Aa)×Int):Option (((List Aa)×Int)⊕((List Aa))):=
match s with
| (p55,p56)=>
if (decide (p56<a2))=true then
(Ca (Xw a1 is3) (p55,p56)).bind fun r187=>
(match r187 with
| p163=>
some (.inl (p163,(IntKind.i64.wrap (p56+1)))))
else
some (.inr p55)
noncomputable def Ada (a0:List Aa) (a1:Int) (a2:Int) (is3:Aa→Aa→Option Int):Option (List Aa):=
(Ca (Xv a1 a2 is3) (a0,(IntKind.i64.wrap (a1+1)))).bind fun r189=>
(match r189 with
| p111=>
some p111)
noncomputable def Mz (a3:Int) (is4:Aa→Aa→Option Int) (p39:List Aa) (p40:Int) (p96:Int):Option (((List Aa)×Int)⊕((List Aa)⊕(List Aa))):=
(Co p39 (IntKind.i64.wrap (a3+p40))).bind fun y97=>
(p39[(IntKind.i64.wrap (a3+p40)).toNat]?).bind fun y99=>
(Co p39 (IntKind.i64.wrap (a3+p96))).bind fun y101=>
(p39[(IntKind.i64.wrap (a3+p96)).toNat]?).bind fun y103=>
(is4 y99 y103).bind fun r105=>
if (!(decide (r105<0)))=true then
some (.inr (.inr p39))
else
(Co p39 (IntKind.i64.wrap (a3+p96))).bind fun y108=>
(p39[(IntKind.i64.wrap (a3+p96)).toNat]?).bind fun y110=>
(Co p39 (IntKind.i64.wrap (a3+p40))).bind fun y112=>
(p39[(IntKind.i64.wrap (a3+p40)).toNat]?).bind fun y114=>
(Co (p39.set ((IntKind.i64.wrap (a3+p40)).toNat) y110) (IntKind.i64.wrap (a3+p96))).bind fun y116=>
((p39.set ((IntKind.i64.wrap (a3+p40)).toNat) y110)[(IntKind.i64.wrap (a3+p96)).toNat]?).bind fun y118=>
some (.inl (((p39.set ((IntKind.i64.wrap (a3+p40)).toNat) y110).set ((IntKind.i64.wrap (a3+p96)).toNat) y114),p96))
noncomputable def Yk (a2:Int) (a3:Int) (is4:Aa→Aa→Option Int) (s:(List Aa)×Int):Option (((List Aa)×Int)⊕((List Aa)⊕(List Aa))):=
match s with
| (p39,p40)=>
if (decide ((IntKind.i64.wrap ((IntKind.i64.wrap (2*p40))+1))≥a2))=true then
some (.inr (.inl p39))
else
(if ((decide ((IntKind.i64.wrap ((IntKind.i64.wrap ((IntKind.i64.wrap (2*p40))+1))+1))<a2))==true)=true then Co p39 (IntKind.i64.wrap (a3+(IntKind.i64.wrap ((IntKind.i64.wrap (2*p40))+1)))) else some default).bind fun y83=>
(if ((decide ((IntKind.i64.wrap ((IntKind.i64.wrap ((IntKind.i64.wrap (2*p40))+1))+1))<a2))==true)=true then p39[(IntKind.i64.wrap (a3+(IntKind.i64.wrap ((IntKind.i64.wrap (2*p40))+1)))).toNat]? else some default).bind fun y85=>
(if ((decide ((IntKind.i64.wrap ((IntKind.i64.wrap ((IntKind.i64.wrap (2*p40))+1))+1))<a2))==true)=true then Co p39 (IntKind.i64.wrap ((IntKind.i64.wrap (a3+(IntKind.i64.wrap ((IntKind.i64.wrap (2*p40))+1))))+1)) else some default).bind fun y87=>
(if ((decide ((IntKind.i64.wrap ((IntKind.i64.wrap ((IntKind.i64.wrap (2*p40))+1))+1))<a2))==true)=true then p39[(IntKind.i64.wrap ((IntKind.i64.wrap (a3+(IntKind.i64.wrap ((IntKind.i64.wrap (2*p40))+1))))+1)).toNat]? else some default).bind fun y89=>
(if ((decide ((IntKind.i64.wrap ((IntKind.i64.wrap ((IntKind.i64.wrap (2*p40))+1))+1))<a2))==true)=true then is4 y85 y89 else some default).bind fun r91=>
Bx ((bif (decide ((IntKind.i64.wrap ((IntKind.i64.wrap ((IntKind.i64.wrap (2*p40))+1))+1))<a2)) then (decide (r91<0)) else false)) fun v93=>
if v93=true then
Mz a3 is4 p39 p40 (IntKind.i64.wrap ((IntKind.i64.wrap ((IntKind.i64.wrap (2*p40))+1))+1))
else
Mz a3 is4 p39 p40 (IntKind.i64.wrap ((IntKind.i64.wrap (2*p40))+1))
noncomputable def CI (a0:List Aa) (a1:Int) (a2:Int) (a3:Int) (is4:Aa→Aa→Option Int):Option (List Aa):=
(Ca (Yk a2 a3 is4) (a0,a1)).bind fun r122=>
(match r122 with
| .inl p81=>
some p81
| .inr q=>some q)
noncomputable def Xx (a1:Int) (a2:Int) (is3:Aa→Aa→Option Int) (s:(List Aa)×Int):Option (((List Aa)×Int)⊕((List Aa))):=
match s with
| (p7,p8)=>
if (decide (p8≥0))=true then
(CI p7 p8 (IntKind.i64.wrap (a2-a1)) a1 is3).bind fun r17=>
if r17.length=p7.length then
some (.inl (r17,(IntKind.i64.wrap (p8-1))))
else none
else
some (.inr p7)
noncomputable def Xy (a1:Int) (is3:Aa→Aa→Option Int) (s:(List Aa)×Int):Option (((List Aa)×Int)⊕((List Aa))):=
match s with
| (p38,p39)=>
if (decide (p39≥0))=true then
(Co p38 (IntKind.i64.wrap (a1+p39))).bind fun y60=>
(p38[(IntKind.i64.wrap (a1+p39)).toNat]?).bind fun y62=>
(Co p38 a1).bind fun y64=>
(p38[a1.toNat]?).bind fun y66=>
(Co (p38.set a1.toNat y62) (IntKind.i64.wrap (a1+p39))).bind fun y68=>
((p38.set a1.toNat y62)[(IntKind.i64.wrap (a1+p39)).toNat]?).bind fun y70=>
(CI ((p38.set a1.toNat y62).set ((IntKind.i64.wrap (a1+p39)).toNat) y66) 0 p39 a1 is3).bind fun r72=>
if r72.length=((p38.set a1.toNat y62).set ((IntKind.i64.wrap (a1+p39)).toNat) y66).length then
some (.inl (r72,(IntKind.i64.wrap (p39-1))))
else none
else
some (.inr p38)
noncomputable def Adb (a0:List Aa) (a1:Int) (a2:Int) (is3:Aa→Aa→Option Int):Option (List Aa):=
Bx (IntKind.i64.wrap (((IntKind.i64.wrap ((IntKind.i64.wrap (a2-a1))-1))).tdiv 2)) fun v1=>
(Ca (Xx a1 a2 is3) (a0,v1)).bind fun r20=>
(match r20 with
| p15=>
(Ca (Xy a1 is3) (p15,(IntKind.i64.wrap ((IntKind.i64.wrap (a2-a1))-1)))).bind fun r75=>
(match r75 with
| p58=>
some p58))
noncomputable def fE (p5:Int) (p6:Int):Option Int:=
(Co ([0,1,2,2,3,3,3,3,4,4,4,4,4,4,4,4,5,5,5,5,5,5,5,5,5,5,5,5,5,5,5,5,6,6,6,6,6,6,6,6,6,6,6,6,6,6,6,6,6,6,6,6,6,6,6,6,6,6,6,6,6,6,6,6,7,7,7,7,7,7,7,7,7,7,7,7,7,7,7,7,7,7,7,7,7,7,7,7,7,7,7,7,7,7,7,7,7,7,7,7,7,7,7,7,7,7,7,7,7,7,7,7,7,7,7,7,7,7,7,7,7,7,7,7,7,7,7,7,8,8,8,8,8,8,8,8,8,8,8,8,8,8,8,8,8,8,8,8,8,8,8,8,8,8,8,8,8,8,8,8,8,8,8,8,8,8,8,8,8,8,8,8,8,8,8,8,8,8,8,8,8,8,8,8,8,8,8,8,8,8,8,8,8,8,8,8,8,8,8,8,8,8,8,8,8,8,8,8,8,8,8,8,8,8,8,8,8,8,8,8,8,8,8,8,8,8,8,8,8,8,8,8,8,8,8,8,8,8,8,8,8,8,8,8,8,8,8,8,8,8,8,8,8,8,8,8]:List UInt8) ((b8 p5).toNat:Int)).bind fun y7=>
some (IntKind.i64.wrap (p6+(IntKind.i64.wrap ((y7).toNat:Int))))
noncomputable def fD (p2:Int) (p3:Int):Option Int:=
if (decide (p2≥256))=true then
fE (Nd .u32 p2 8) (IntKind.i64.wrap (p3+8))
else
fE p2 p3
noncomputable def g156 (a0:Int):Option Int:=
if (decide (a0≥65536))=true then
fD (Nd .u32 a0 16) 16
else
fD a0 0
noncomputable def Tq (p8:Int) (p9:Int):Option Int:=
(Co ([0,1,2,2,3,3,3,3,4,4,4,4,4,4,4,4,5,5,5,5,5,5,5,5,5,5,5,5,5,5,5,5,6,6,6,6,6,6,6,6,6,6,6,6,6,6,6,6,6,6,6,6,6,6,6,6,6,6,6,6,6,6,6,6,7,7,7,7,7,7,7,7,7,7,7,7,7,7,7,7,7,7,7,7,7,7,7,7,7,7,7,7,7,7,7,7,7,7,7,7,7,7,7,7,7,7,7,7,7,7,7,7,7,7,7,7,7,7,7,7,7,7,7,7,7,7,7,7,8,8,8,8,8,8,8,8,8,8,8,8,8,8,8,8,8,8,8,8,8,8,8,8,8,8,8,8,8,8,8,8,8,8,8,8,8,8,8,8,8,8,8,8,8,8,8,8,8,8,8,8,8,8,8,8,8,8,8,8,8,8,8,8,8,8,8,8,8,8,8,8,8,8,8,8,8,8,8,8,8,8,8,8,8,8,8,8,8,8,8,8,8,8,8,8,8,8,8,8,8,8,8,8,8,8,8,8,8,8,8,8,8,8,8,8,8,8,8,8,8,8,8,8,8,8,8,8]:List UInt8) ((b8 p8).toNat:Int)).bind fun y10=>
some (IntKind.i64.wrap (p9+(IntKind.i64.wrap ((y10).toNat:Int))))
noncomputable def Tp (p5:Int) (p6:Int):Option Int:=
if (decide (p5≥256))=true then
Tq (Nd .u64 p5 8) (IntKind.i64.wrap (p6+8))
else
Tq p5 p6
noncomputable def Yj (p2:Int) (p3:Int):Option Int:=
if (decide (p2≥65536))=true then
Tp (Nd .u64 p2 16) (IntKind.i64.wrap (p3+16))
else
Tp p2 p3
noncomputable def Ado (a0:Int):Option Int:=
if (decide (a0≥4294967296))=true then
Yj (Nd .u64 a0 32) 32
else
Yj a0 0
noncomputable def CF (a0:Int):Option Int:=
if false=true then
(g156 (IntKind.u32.wrap a0)).bind fun r2=>
some r2
else
(Ado a0).bind fun r4=>
some r4
noncomputable def Adp (a0:Int):Option Int:=
(CF (IntKind.u64.wrap a0)).bind fun r1=>
if 0≤r1 then
some (fY .u64 1 r1)
else none
noncomputable def Adr (a0:Int):Option (Int×Int):=
Bx (bZ .u64 (bZ .u64 a0 (fY .u64 a0 13)) (Nd .u64 (bZ .u64 a0 (fY .u64 a0 13)) 7)) fun v1=>
some (bZ .u64 v1 (fY .u64 v1 17),bZ .u64 v1 (fY .u64 v1 17))
noncomputable def Th (a1:Int) (p27:List Aa) (p28:Int) (r58:Int×Int) (p63:Int):Option (((List Aa)×Int×Int)⊕((List Aa))):=
(Co p27 (IntKind.i64.wrap (a1+p63))).bind fun y64=>
(p27[(IntKind.i64.wrap (a1+p63)).toNat]?).bind fun y66=>
(Co p27 p28).bind fun y68=>
(p27[p28.toNat]?).bind fun y70=>
(Co (p27.set p28.toNat y66) (IntKind.i64.wrap (a1+p63))).bind fun y72=>
((p27.set p28.toNat y66)[(IntKind.i64.wrap (a1+p63)).toNat]?).bind fun y74=>
some (.inl (((p27.set p28.toNat y66).set ((IntKind.i64.wrap (a1+p63)).toNat) y70),(IntKind.i64.wrap (p28+1)),r58.2))
noncomputable def Ti (a1:Int) (a2:Int) (r2:Int) (s:(List Aa)×Int×Int):Option (((List Aa)×Int×Int)⊕((List Aa))):=
match s with
| (p27,p28,p29)=>
Bx ((decide (p28≤(IntKind.i64.wrap ((IntKind.i64.wrap (a1+(IntKind.i64.wrap ((IntKind.i64.wrap (((IntKind.i64.wrap (a2-a1))).tdiv 4))*2))))+1))))) fun v55=>
if v55=true then
(Adr p29).bind fun r58=>
Bx ((decide ((IntKind.i64.wrap (fV .u64 r58.1 (IntKind.u64.wrap (r2-1))))≥(IntKind.i64.wrap (a2-a1))))) fun v60=>
if v60=true then
Th a1 p27 p28 r58 (IntKind.i64.wrap ((IntKind.i64.wrap (fV .u64 r58.1 (IntKind.u64.wrap (r2-1))))-(IntKind.i64.wrap (a2-a1))))
else
Th a1 p27 p28 r58 (IntKind.i64.wrap (fV .u64 r58.1 (IntKind.u64.wrap (r2-1))))
else
some (.inr p27)
noncomputable def qX (a0:List Aa) (a1:Int) (a2:Int) (is3:Aa→Aa→Option Int):Option (List Aa):=
if (decide ((IntKind.i64.wrap (a2-a1))≥8))=true then
(Adp (IntKind.i64.wrap (a2-a1))).bind fun r2=>
Bx (IntKind.i64.wrap ((IntKind.i64.wrap (a1+(IntKind.i64.wrap ((IntKind.i64.wrap (((IntKind.i64.wrap (a2-a1))).tdiv 4))*2))))-1)) fun v4=>
(Ca (Ti a1 a2 r2) (a0,v4,(IntKind.u64.wrap (IntKind.i64.wrap (a2-a1))))).bind fun r78=>
(match r78 with
| p54=>
some p54)
else
some a0
noncomputable def qZ (a0:List Aa) (a1:Int) (a2:Int) (a3:Int) (is4:Aa→Aa→Option Int):Option (Int×Int×Int):=
(Co a0 a2).bind fun y1=>
(Co a0 a1).bind fun y3=>
(is4 y1 y3).bind fun r5=>
if (decide (r5<0))=true then
some (a2,a1,IntKind.i64.wrap (a3+1))
else
some (a1,a2,a3)
noncomputable def CJ (a0:List Aa) (a1:Int) (a2:Int) (a3:Int) (a4:Int) (is5:Aa→Aa→Option Int):Option (Int×Int):=
(qZ a0 a1 a2 a4 is5).bind fun r1=>
(qZ a0 r1.2.1 a3 r1.2.2 is5).bind fun r3=>
(qZ a0 r1.1 r3.1 r3.2.2 is5).bind fun r5=>
some (r5.2.1,r5.2.2)
noncomputable def qY (a0:List Aa) (a1:Int) (a2:Int) (is3:Aa→Aa→Option Int):Option (Int×Int):=
(CJ a0 (IntKind.i64.wrap (a1-1)) a1 (IntKind.i64.wrap (a1+1)) a2 is3).bind fun r1=>
some (r1.1,r1.2)
noncomputable def Tj (p21:Int) (p22:Int):Option (Int×Int):=
if (p22==0)=true then
some (p21,1)
else
if (p22==12)=true then
some (p21,2)
else
some (p21,0)
noncomputable def Tl (a0:List Aa) (is3:Aa→Aa→Option Int) (p34:Int) (p35:Int) (p36:Int) (p37:Int):Option (Int×Int):=
(CJ a0 p34 p35 p36 p37 is3).bind fun r38=>
Tj r38.1 r38.2
noncomputable def Adf (a0:List Aa) (a1:Int) (a2:Int) (is3:Aa→Aa→Option Int):Option (Int×Int):=
Bx (IntKind.i64.wrap (a1+(IntKind.i64.wrap ((IntKind.i64.wrap (((IntKind.i64.wrap (a2-a1))).tdiv 4))*1)))) fun v1=>
Bx (IntKind.i64.wrap (a1+(IntKind.i64.wrap ((IntKind.i64.wrap (((IntKind.i64.wrap (a2-a1))).tdiv 4))*2)))) fun v3=>
Bx (IntKind.i64.wrap (a1+(IntKind.i64.wrap ((IntKind.i64.wrap (((IntKind.i64.wrap (a2-a1))).tdiv 4))*3)))) fun v5=>
if (decide ((IntKind.i64.wrap (a2-a1))≥8))=true then
if (decide ((IntKind.i64.wrap (a2-a1))≥50))=true then
(qY a0 v1 0 is3).bind fun r42=>
(qY a0 v3 r42.2 is3).bind fun r44=>
(qY a0 v5 r44.2 is3).bind fun r46=>
Tl a0 is3 r42.1 r44.1 r46.1 r46.2
else
Tl a0 is3 v1 v3 v5 0
else
Tj v3 0
noncomputable def Xz  (s:(List Aa)×Int×Int):Option (((List Aa)×Int×Int)⊕((List Aa))):=
match s with
| (p14,p15,p16)=>
if (decide (p15<p16))=true then
(Co p14 p16).bind fun y35=>
(p14[p16.toNat]?).bind fun y37=>
(Co p14 p15).bind fun y39=>
(p14[p15.toNat]?).bind fun y41=>
(Co (p14.set p15.toNat y37) p16).bind fun y43=>
((p14.set p15.toNat y37)[p16.toNat]?).bind fun y45=>
some (.inl (((p14.set p15.toNat y37).set p16.toNat y41),(IntKind.i64.wrap (p15+1)),(IntKind.i64.wrap (p16-1))))
else
some (.inr p14)
noncomputable def Adh (a0:List Aa) (a1:Int) (a2:Int) (is3:Aa→Aa→Option Int):Option (List Aa):=
(Ca (Xz) (a0,a1,(IntKind.i64.wrap (a2-1)))).bind fun r47=>
(match r47 with
| p33=>
some p33)
noncomputable def Ya (p156:Int) (p465:List Aa) (p466:Int):Option (((List Aa)×Int×Int)⊕((List Aa)⊕(Bool×(List Aa)))):=
some (.inl (p465,p466,(IntKind.i64.wrap (p156+1))))
noncomputable def Yc (a2:Int) (is3:Aa→Aa→Option Int) (p154:List Aa) (s:Int):Option ((Int)⊕(Int)):=
match s with
| p479=>
(if ((decide (p479<a2))==true)=true then Co p154 p479 else some default).bind fun y493=>
(if ((decide (p479<a2))==true)=true then p154[p479.toNat]? else some default).bind fun y495=>
(if ((decide (p479<a2))==true)=true then Co p154 (IntKind.i64.wrap (p479-1)) else some default).bind fun y497=>
(if ((decide (p479<a2))==true)=true then p154[(IntKind.i64.wrap (p479-1)).toNat]? else some default).bind fun y499=>
(if ((decide (p479<a2))==true)=true then is3 y495 y499 else some default).bind fun r501=>
if (bif (decide (p479<a2)) then (!(decide (r501<0))) else false)=true then
some (.inl (IntKind.i64.wrap (p479+1)))
else
some (.inr p479)
noncomputable def Yd (a2:Int) (is3:Aa→Aa→Option Int) (s:(List Aa)×Int):Option (((List Aa)×Int)⊕((List Aa))):=
match s with
| (p602,p603)=>
if (decide (p603<a2))=true then
(Co p602 p603).bind fun y632=>
(p602[p603.toNat]?).bind fun y634=>
(Co p602 (IntKind.i64.wrap (p603-1))).bind fun y636=>
(p602[(IntKind.i64.wrap (p603-1)).toNat]?).bind fun y638=>
(is3 y634 y638).bind fun r640=>
if (!(decide (r640<0)))=true then
some (.inr p602)
else
(Co p602 (IntKind.i64.wrap (p603-1))).bind fun y643=>
(p602[(IntKind.i64.wrap (p603-1)).toNat]?).bind fun y645=>
(Co p602 p603).bind fun y647=>
(p602[p603.toNat]?).bind fun y649=>
(Co (p602.set p603.toNat y645) (IntKind.i64.wrap (p603-1))).bind fun y651=>
((p602.set p603.toNat y645)[(IntKind.i64.wrap (p603-1)).toNat]?).bind fun y653=>
some (.inl (((p602.set p603.toNat y645).set ((IntKind.i64.wrap (p603-1)).toNat) y649),(IntKind.i64.wrap (p603+1))))
else
some (.inr p602)
noncomputable def Tm (a2:Int) (is3:Aa→Aa→Option Int) (p156:Int) (p492:Int) (p576:List Aa):Option (((List Aa)×Int×Int)⊕((List Aa)⊕(Bool×(List Aa)))):=
if (decide ((IntKind.i64.wrap (a2-p492))≥2))=true then
(Ca (Yd a2 is3) (p576,(IntKind.i64.wrap (p492+1)))).bind fun r655=>
(match r655 with
| p630=>
Ya p156 p630 p492)
else
Ya p156 p576 p492
noncomputable def Ye (is3:Aa→Aa→Option Int) (s:(List Aa)×Int):Option (((List Aa)×Int)⊕((List Aa))):=
match s with
| (p683,p684)=>
if (decide (p684≥1))=true then
(Co p683 p684).bind fun y713=>
(p683[p684.toNat]?).bind fun y715=>
(Co p683 (IntKind.i64.wrap (p684-1))).bind fun y717=>
(p683[(IntKind.i64.wrap (p684-1)).toNat]?).bind fun y719=>
(is3 y715 y719).bind fun r721=>
if (!(decide (r721<0)))=true then
some (.inr p683)
else
(Co p683 (IntKind.i64.wrap (p684-1))).bind fun y724=>
(p683[(IntKind.i64.wrap (p684-1)).toNat]?).bind fun y726=>
(Co p683 p684).bind fun y728=>
(p683[p684.toNat]?).bind fun y730=>
(Co (p683.set p684.toNat y726) (IntKind.i64.wrap (p684-1))).bind fun y732=>
((p683.set p684.toNat y726)[(IntKind.i64.wrap (p684-1)).toNat]?).bind fun y734=>
some (.inl (((p683.set p684.toNat y726).set ((IntKind.i64.wrap (p684-1)).toNat) y730),(IntKind.i64.wrap (p684-1))))
else
some (.inr p683)
noncomputable def Yb (a1:Int) (a2:Int) (is3:Aa→Aa→Option Int) (s:(List Aa)×Int×Int):Option (((List Aa)×Int×Int)⊕((List Aa)⊕(Bool×(List Aa)))):=
match s with
| (p154,p155,p156)=>
if (decide (p156<5))=true then
(Ca (Yc a2 is3 p154) p155).bind fun r504=>
(match r504 with
| p492=>
if (p492==a2)=true then
some (.inr (.inr (true,p154)))
else
if (decide ((IntKind.i64.wrap (a2-a1))<50))=true then
some (.inr (.inr (false,p154)))
else
(Co p154 (IntKind.i64.wrap (p492-1))).bind fun y508=>
(p154[(IntKind.i64.wrap (p492-1)).toNat]?).bind fun y510=>
(Co p154 p492).bind fun y512=>
(p154[p492.toNat]?).bind fun y514=>
(Co (p154.set p492.toNat y510) (IntKind.i64.wrap (p492-1))).bind fun y516=>
((p154.set p492.toNat y510)[(IntKind.i64.wrap (p492-1)).toNat]?).bind fun y518=>
Bx ((p154.set p492.toNat y510).set ((IntKind.i64.wrap (p492-1)).toNat) y514) fun v520=>
if (decide ((IntKind.i64.wrap (p492-a1))≥2))=true then
(Ca (Ye is3) (v520,(IntKind.i64.wrap (p492-1)))).bind fun r736=>
(match r736 with
| p711=>
Tm a2 is3 p156 p492 p711)
else
Tm a2 is3 p156 p492 v520)
else
some (.inr (.inl p154))
noncomputable def Adj (a0:List Aa) (a1:Int) (a2:Int) (is3:Aa→Aa→Option Int):Option (Bool×(List Aa)):=
(Ca (Yb a1 a2 is3) (a0,(IntKind.i64.wrap (a1+1)),0)).bind fun r738=>
(match r738 with
| .inl p313=>
some (false,p313)
| .inr q=>some q)
noncomputable def Yg (a1:Int) (is4:Aa→Aa→Option Int) (p84:List Aa) (p86:Int) (s:Int):Option ((Int)⊕(Int)):=
match s with
| p166=>
(if ((decide (p166≤p86))==true)=true then Co p84 a1 else some default).bind fun y180=>
(if ((decide (p166≤p86))==true)=true then p84[a1.toNat]? else some default).bind fun y182=>
(if ((decide (p166≤p86))==true)=true then Co p84 p166 else some default).bind fun y184=>
(if ((decide (p166≤p86))==true)=true then p84[p166.toNat]? else some default).bind fun y186=>
(if ((decide (p166≤p86))==true)=true then is4 y182 y186 else some default).bind fun r188=>
if (bif (decide (p166≤p86)) then (!(decide (r188<0))) else false)=true then
some (.inl (IntKind.i64.wrap (p166+1)))
else
some (.inr p166)
noncomputable def Yh (a1:Int) (is4:Aa→Aa→Option Int) (p84:List Aa) (p179:Int) (s:Int):Option ((Int)⊕(Int)):=
match s with
| p204=>
(if ((decide (p179≤p204))==true)=true then Co p84 a1 else some default).bind fun y218=>
(if ((decide (p179≤p204))==true)=true then p84[a1.toNat]? else some default).bind fun y220=>
(if ((decide (p179≤p204))==true)=true then Co p84 p204 else some default).bind fun y222=>
(if ((decide (p179≤p204))==true)=true then p84[p204.toNat]? else some default).bind fun y224=>
(if ((decide (p179≤p204))==true)=true then is4 y220 y224 else some default).bind fun r226=>
if (bif (decide (p179≤p204)) then (decide (r226<0)) else false)=true then
some (.inl (IntKind.i64.wrap (p204-1)))
else
some (.inr p204)
noncomputable def Yf (a1:Int) (is4:Aa→Aa→Option Int) (s:(List Aa)×Int×Int):Option (((List Aa)×Int×Int)⊕((List Aa)×Int)):=
match s with
| (p84,p85,p86)=>
(Ca (Yg a1 is4 p84 p86) p85).bind fun r191=>
(match r191 with
| p179=>
(Ca (Yh a1 is4 p84 p179) p86).bind fun r229=>
(match r229 with
| p217=>
if (decide (p179>p217))=true then
some (.inr (p84,p179))
else
(Co p84 p217).bind fun y232=>
(p84[p217.toNat]?).bind fun y234=>
(Co p84 p179).bind fun y236=>
(p84[p179.toNat]?).bind fun y238=>
(Co (p84.set p179.toNat y234) p217).bind fun y240=>
((p84.set p179.toNat y234)[p217.toNat]?).bind fun y242=>
some (.inl (((p84.set p179.toNat y234).set p217.toNat y238),(IntKind.i64.wrap (p179+1)),(IntKind.i64.wrap (p217-1))))))
noncomputable def Adl (a0:List Aa) (a1:Int) (a2:Int) (a3:Int) (is4:Aa→Aa→Option Int):Option (Int×(List Aa)):=
(Co a0 a3).bind fun y1=>
(a0[a3.toNat]?).bind fun y3=>
(Co a0 a1).bind fun y5=>
(a0[a1.toNat]?).bind fun y7=>
(Co (a0.set a1.toNat y3) a3).bind fun y9=>
((a0.set a1.toNat y3)[a3.toNat]?).bind fun y11=>
(Ca (Yf a1 is4) (((a0.set a1.toNat y3).set a3.toNat y7),(IntKind.i64.wrap (a1+1)),(IntKind.i64.wrap (a2-1)))).bind fun r244=>
(match r244 with
| (p153,p154)=>
some (p154,p153))
noncomputable def fA (a0:List Aa) (a1:Int) (a2:Int) (a3:Int) (is4:Aa→Aa→Option Int) (y3:Aa) (y7:Aa) (s:Int):Option ((Int)⊕(Int)):=
match s with
| p26=>
(if ((decide (p26≤(IntKind.i64.wrap (a2-1))))==true)=true then Co ((a0.set a1.toNat y3).set a3.toNat y7) p26 else some default).bind fun y42=>
(if ((decide (p26≤(IntKind.i64.wrap (a2-1))))==true)=true then ((a0.set a1.toNat y3).set a3.toNat y7)[p26.toNat]? else some default).bind fun y44=>
(if ((decide (p26≤(IntKind.i64.wrap (a2-1))))==true)=true then Co ((a0.set a1.toNat y3).set a3.toNat y7) a1 else some default).bind fun y46=>
(if ((decide (p26≤(IntKind.i64.wrap (a2-1))))==true)=true then ((a0.set a1.toNat y3).set a3.toNat y7)[a1.toNat]? else some default).bind fun y48=>
(if ((decide (p26≤(IntKind.i64.wrap (a2-1))))==true)=true then is4 y44 y48 else some default).bind fun r50=>
Bx ((bif (decide (p26≤(IntKind.i64.wrap (a2-1)))) then (decide (r50<0)) else false)) fun v52=>
if v52=true then
some (.inl (IntKind.i64.wrap (p26+1)))
else
some (.inr p26)
noncomputable def fB (a0:List Aa) (a1:Int) (a3:Int) (is4:Aa→Aa→Option Int) (y3:Aa) (y7:Aa) (p41:Int) (s:Int):Option ((Int)⊕(Int)):=
match s with
| p70=>
(if ((decide (p41≤p70))==true)=true then Co ((a0.set a1.toNat y3).set a3.toNat y7) p70 else some default).bind fun y84=>
(if ((decide (p41≤p70))==true)=true then ((a0.set a1.toNat y3).set a3.toNat y7)[p70.toNat]? else some default).bind fun y86=>
(if ((decide (p41≤p70))==true)=true then Co ((a0.set a1.toNat y3).set a3.toNat y7) a1 else some default).bind fun y88=>
(if ((decide (p41≤p70))==true)=true then ((a0.set a1.toNat y3).set a3.toNat y7)[a1.toNat]? else some default).bind fun y90=>
(if ((decide (p41≤p70))==true)=true then is4 y86 y90 else some default).bind fun r92=>
if (bif (decide (p41≤p70)) then (!(decide (r92<0))) else false)=true then
some (.inl (IntKind.i64.wrap (p70-1)))
else
some (.inr p70)
noncomputable def Tn (a1:Int) (is4:Aa→Aa→Option Int) (p195:List Aa) (p197:Int) (s:Int):Option ((Int)⊕(Int)):=
match s with
| p277=>
(if ((decide (p277≤p197))==true)=true then Co p195 p277 else some default).bind fun y291=>
(if ((decide (p277≤p197))==true)=true then p195[p277.toNat]? else some default).bind fun y293=>
(if ((decide (p277≤p197))==true)=true then Co p195 a1 else some default).bind fun y295=>
(if ((decide (p277≤p197))==true)=true then p195[a1.toNat]? else some default).bind fun y297=>
(if ((decide (p277≤p197))==true)=true then is4 y293 y297 else some default).bind fun r299=>
if (bif (decide (p277≤p197)) then (decide (r299<0)) else false)=true then
some (.inl (IntKind.i64.wrap (p277+1)))
else
some (.inr p277)
noncomputable def To (a1:Int) (is4:Aa→Aa→Option Int) (p195:List Aa) (p290:Int) (s:Int):Option ((Int)⊕(Int)):=
match s with
| p315=>
(if ((decide (p290≤p315))==true)=true then Co p195 p315 else some default).bind fun y329=>
(if ((decide (p290≤p315))==true)=true then p195[p315.toNat]? else some default).bind fun y331=>
(if ((decide (p290≤p315))==true)=true then Co p195 a1 else some default).bind fun y333=>
(if ((decide (p290≤p315))==true)=true then p195[a1.toNat]? else some default).bind fun y335=>
(if ((decide (p290≤p315))==true)=true then is4 y331 y335 else some default).bind fun r337=>
if (bif (decide (p290≤p315)) then (!(decide (r337<0))) else false)=true then
some (.inl (IntKind.i64.wrap (p315-1)))
else
some (.inr p315)
noncomputable def Yi (a1:Int) (is4:Aa→Aa→Option Int) (s:(List Aa)×Int×Int):Option (((List Aa)×Int×Int)⊕((List Aa)×Int)):=
match s with
| (p195,p196,p197)=>
(Ca (Tn a1 is4 p195 p197) p196).bind fun r302=>
(match r302 with
| p290=>
(Ca (To a1 is4 p195 p290) p197).bind fun r340=>
(match r340 with
| p328=>
if (decide (p290>p328))=true then
some (.inr (p195,p328))
else
(Co p195 p328).bind fun y343=>
(p195[p328.toNat]?).bind fun y345=>
(Co p195 p290).bind fun y347=>
(p195[p290.toNat]?).bind fun y349=>
(Co (p195.set p290.toNat y345) p328).bind fun y351=>
((p195.set p290.toNat y345)[p328.toNat]?).bind fun y353=>
some (.inl (((p195.set p290.toNat y345).set p328.toNat y349),(IntKind.i64.wrap (p290+1)),(IntKind.i64.wrap (p328-1))))))
noncomputable def CH (a0:List Aa) (a1:Int) (a2:Int) (a3:Int) (is4:Aa→Aa→Option Int):Option (Int×Bool×(List Aa)):=
(Co a0 a3).bind fun y1=>
(a0[a3.toNat]?).bind fun y3=>
(Co a0 a1).bind fun y5=>
(a0[a1.toNat]?).bind fun y7=>
(Co (a0.set a1.toNat y3) a3).bind fun y9=>
((a0.set a1.toNat y3)[a3.toNat]?).bind fun y11=>
(Ca (fA a0 a1 a2 a3 is4 y3 y7) (IntKind.i64.wrap (a1+1))).bind fun r55=>
(match r55 with
| p41=>
(Ca (fB a0 a1 a3 is4 y3 y7 p41) (IntKind.i64.wrap (a2-1))).bind fun r95=>
(match r95 with
| p83=>
if (decide (p41>p83))=true then
(Co ((a0.set a1.toNat y3).set a3.toNat y7) a1).bind fun y98=>
(((a0.set a1.toNat y3).set a3.toNat y7)[a1.toNat]?).bind fun y100=>
(Co ((a0.set a1.toNat y3).set a3.toNat y7) p83).bind fun y102=>
(((a0.set a1.toNat y3).set a3.toNat y7)[p83.toNat]?).bind fun y104=>
(Co (((a0.set a1.toNat y3).set a3.toNat y7).set p83.toNat y100) a1).bind fun y106=>
((((a0.set a1.toNat y3).set a3.toNat y7).set p83.toNat y100)[a1.toNat]?).bind fun y108=>
Bx ((((a0.set a1.toNat y3).set a3.toNat y7).set p83.toNat y100).set a1.toNat y104) fun v110=>
some (p83,true,v110)
else
(Co ((a0.set a1.toNat y3).set a3.toNat y7) p83).bind fun y112=>
(((a0.set a1.toNat y3).set a3.toNat y7)[p83.toNat]?).bind fun y114=>
(Co ((a0.set a1.toNat y3).set a3.toNat y7) p41).bind fun y116=>
(((a0.set a1.toNat y3).set a3.toNat y7)[p41.toNat]?).bind fun y118=>
(Co (((a0.set a1.toNat y3).set a3.toNat y7).set p41.toNat y114) p83).bind fun y120=>
((((a0.set a1.toNat y3).set a3.toNat y7).set p41.toNat y114)[p83.toNat]?).bind fun y122=>
Bx ((((a0.set a1.toNat y3).set a3.toNat y7).set p41.toNat y114).set p83.toNat y118) fun v124=>
(Ca (Yi a1 is4) (v124,(IntKind.i64.wrap (p41+1)),(IntKind.i64.wrap (p83-1)))).bind fun r355=>
(match r355 with
| (p264,p265)=>
(Co p264 a1).bind fun y357=>
(p264[a1.toNat]?).bind fun y359=>
(Co p264 p265).bind fun y361=>
(p264[p265.toNat]?).bind fun y363=>
(Co (p264.set p265.toNat y359) a1).bind fun y365=>
((p264.set p265.toNat y359)[a1.toNat]?).bind fun y367=>
some (p265,false,(p264.set p265.toNat y359).set a1.toNat y363))))
noncomputable def Tg (is4:Aa→Aa→Option Int) (rc137:(List Aa)→Int→Int→Int→(Aa→Aa→Option Int)→Option (List Aa)) (p63:Int) (p64:Int) (p66:Bool) (p67:Bool) (p148:Int) (p158:Int) (p165:List Aa):Option (((List Aa)×Int×Int×Int×Bool×Bool)⊕((List Aa))):=
(if ((decide (p63>0))==true)=true then Co p165 (IntKind.i64.wrap (p63-1)) else some default).bind fun y166=>
(if ((decide (p63>0))==true)=true then p165[(IntKind.i64.wrap (p63-1)).toNat]? else some default).bind fun y168=>
(if ((decide (p63>0))==true)=true then Co p165 p158 else some default).bind fun y170=>
(if ((decide (p63>0))==true)=true then p165[p158.toNat]? else some default).bind fun y172=>
(if ((decide (p63>0))==true)=true then is4 y168 y172 else some default).bind fun r174=>
if (bif (decide (p63>0)) then (!(decide (r174<0))) else false)=true then
(Adl p165 p63 p64 p158 is4).bind fun r177=>
if r177.2.length=p165.length then
some (.inl (r177.2,r177.1,p64,p148,p66,p67))
else none
else
(CH p165 p63 p64 p158 is4).bind fun r180=>
if r180.2.2.length=p165.length then
Bx ((decide ((IntKind.i64.wrap (r180.1-p63))<(IntKind.i64.wrap (p64-r180.1))))) fun v183=>
if v183=true then
Bx ((decide ((IntKind.i64.wrap (r180.1-p63))≥(IntKind.i64.wrap (((IntKind.i64.wrap (p64-p63))).tdiv 8))))) fun v186=>
(rc137 r180.2.2 p63 r180.1 p148 is4).bind fun r188=>
if r188.length=r180.2.2.length then
some (.inl (r188,(IntKind.i64.wrap (r180.1+1)),p64,p148,v186,r180.2.1))
else none
else
Bx ((decide ((IntKind.i64.wrap (p64-r180.1))≥(IntKind.i64.wrap (((IntKind.i64.wrap (p64-p63))).tdiv 8))))) fun v191=>
(rc137 r180.2.2 (IntKind.i64.wrap (r180.1+1)) p64 p148 is4).bind fun r193=>
if r193.length=r180.2.2.length then
some (.inl (r193,p63,r180.1,p148,v191,r180.2.1))
else none
else none
noncomputable def Qq (is4:Aa→Aa→Option Int) (rc137:(List Aa)→Int→Int→Int→(Aa→Aa→Option Int)→Option (List Aa)) (p63:Int) (p64:Int) (p66:Bool) (p67:Bool) (p148:Int) (p157:List Aa) (p158:Int) (p159:Int):Option (((List Aa)×Int×Int×Int×Bool×Bool)⊕((List Aa))):=
if (bif (bif p66 then p67 else false) then (p159==1) else false)=true then
(Adj p157 p63 p64 is4).bind fun r198=>
if r198.2.length=p157.length then
if r198.1=true then
some (.inr r198.2)
else
Tg is4 rc137 p63 p64 p66 p67 p148 p158 r198.2
else none
else
Tg is4 rc137 p63 p64 p66 p67 p148 p158 p157
noncomputable def Ln (is4:Aa→Aa→Option Int) (rc137:(List Aa)→Int→Int→Int→(Aa→Aa→Option Int)→Option (List Aa)) (p63:Int) (p64:Int) (p66:Bool) (p67:Bool) (p147:List Aa) (p148:Int):Option (((List Aa)×Int×Int×Int×Bool×Bool)⊕((List Aa))):=
(Adf p147 p63 p64 is4).bind fun r149=>
if (r149.2==2)=true then
(Adh p147 p63 p64 is4).bind fun r204=>
if r204.length=p147.length then
Bx (IntKind.i64.wrap ((IntKind.i64.wrap (p64-1))-(IntKind.i64.wrap (r149.1-p63)))) fun v207=>
Qq is4 rc137 p63 p64 p66 p67 p148 r204 v207 1
else none
else
Qq is4 rc137 p63 p64 p66 p67 p148 p147 r149.1 r149.2
noncomputable def Jw (is4:Aa→Aa→Option Int) (rc137:(List Aa)→Int→Int→Int→(Aa→Aa→Option Int)→Option (List Aa)) (s:(List Aa)×Int×Int×Int×Bool×Bool):Option (((List Aa)×Int×Int×Int×Bool×Bool)⊕((List Aa))):=
match s with
| (p62,p63,p64,p65,p66,p67)=>
if (decide ((IntKind.i64.wrap (p64-p63))≤12))=true then
(Ada p62 p63 p64 is4).bind fun r136=>
if r136.length=p62.length then
some (.inr r136)
else none
else
if (p65==0)=true then
(Adb p62 p63 p64 is4).bind fun r140=>
if r140.length=p62.length then
some (.inr r140)
else none
else
if (!p66)=true then
(qX p62 p63 p64 is4).bind fun r211=>
if r211.length=p62.length then
Ln is4 rc137 p63 p64 p66 p67 r211 (IntKind.i64.wrap (p65-1))
else none
else
Ln is4 rc137 p63 p64 p66 p67 p62 p65
noncomputable def Vf (rc137:(List Aa)→Int→Int→Int→(Aa→Aa→Option Int)→Option (List Aa)) (a0:List Aa) (a1:Int) (a2:Int) (a3:Int) (is4:Aa→Aa→Option Int):Option (List Aa):=
(Ca (Jw is4 rc137) (a0,a1,a2,a3,true,true)).bind fun r214=>
(match r214 with
| q=>some q)
noncomputable def lM (n:Nat):(List Aa)→Int→Int→Int→(Aa→Aa→Option Int)→Option (List Aa):=Nat.rec (fun _ _ _ _ _=>none) (fun _ rc=>Vf rc) n
noncomputable def CC (a0:List Aa) (is1:Aa→Aa→Option Int):Option (List Aa):=
(CF (IntKind.u64.wrap (a0.length:Int))).bind fun r1=>
(lM Og a0 0 (a0.length:Int) r1 is1).bind fun r3=>
if r3.length=a0.length then
some r3
else none
noncomputable def Zt (p21:Int) (p58:List Aa) (p59:List Aa):Option (((List Aa)×(List Aa)×Int)⊕((List Aa)×(List Aa))):=
some (.inl (p58,p59,(IntKind.i64.wrap (p21+1))))
noncomputable def Sc (a0:Ar) (a1:Int) (r1:Ar) (s:(List Aa)×(List Aa)×Int):Option (((List Aa)×(List Aa)×Int)⊕((List Aa)×(List Aa))):=
match s with
| (p19,p20,p21)=>
if (decide (p21<(r1.Ae.length:Int)))=true then
(Co p20 p21).bind fun y62=>
(p20[p21.toNat]?).bind fun y64=>
Bx ((bif (!y64.Bz) then (decide (y64.Bg≤(if a1>a0.clock then a1 else a0.clock))) else false)) fun v66=>
if v66=true then
(Co p20 p21).bind fun y69=>
(p20[p21.toNat]?).bind fun y71=>
if (p19.length+([y64]:List Aa).length)*32≤140737488355328 then
Zt p21 (p19++([y64]:List Aa)) (p20.set p21.toNat (Aa.mk y71.id y71.Bg y71.cap true))
else none
else
Zt p21 p19 p20
else
some (.inr (p19,p20))
noncomputable def g82 (a0:Ar) (a1:Int):Option (Ar×(List Int)):=
(eY a0).bind fun r1=>
(Ca (Sc a0 a1 r1) ([],r1.Ae,0)).bind fun r74=>
(match r74 with
| (p43,p44)=>
(CC p43 (fun z69_0 z69_1=>g69 z69_0 z69_1)).bind fun r76=>
if r76.length=p43.length then
(g60 (Ar.mk 0 0 r76)).bind fun r79=>
some ((Ar.mk (if a1>a0.clock then a1 else a0.clock) r1.next p44),r79)
else none)
noncomputable def mD (a0:Bc) (a1:Cx):Option Bool:=
some (bif (a0.stop==2) then (a1.Gm==1) else false)
noncomputable def oR (a0:List Aj) (is1:Aj→Option Bool) (s:Int):Option ((Int)⊕(Unit⊕Int)):=
match s with
| p7=>
if (decide (p7<(a0.length:Int)))=true then
(Co a0 p7).bind fun y16=>
(is1 y16).bind fun r18=>
if r18=true then
some (.inr (.inr p7))
else
some (.inl (IntKind.i64.wrap (p7+1)))
else
some (.inr (.inl ()))
noncomputable def g475 (a0:List Aj) (is1:Aj→Option Bool):Option Int:=
(Ca (oR a0 is1) 0).bind fun r21=>
(match r21 with
| .inl ()=>
some (-1)
| .inr q=>some q)
noncomputable def fL (p20:Int) (p52:List Aj) (p53:Int):Option (((List Aj)×Int×Int)⊕((List Aj)×Int)):=
some (.inl (p52,p53,(IntKind.i64.wrap (p20+1))))
noncomputable def oQ (is1:Aj→Option Bool) (s:(List Aj)×Int×Int):Option (((List Aj)×Int×Int)⊕((List Aj)×Int)):=
match s with
| (p18,p19,p20)=>
if (decide (p20<(p18.length:Int)))=true then
(Co p18 p20).bind fun y55=>
(p18[p20.toNat]?).bind fun y57=>
(is1 y57).bind fun r59=>
if (!r59)=true then
(Co p18 p19).bind fun y62=>
(p18[p19.toNat]?).bind fun y64=>
fL p20 (p18.set p19.toNat y57) (IntKind.i64.wrap (p19+1))
else
fL p20 p18 p19
else
some (.inr (p18,p19))
noncomputable def CQ (a0:List Aj) (is1:Aj→Option Bool):Option (List Aj):=
(g475 a0 is1).bind fun r1=>
if (r1==(-1))=true then
some a0
else
(Ca (oQ is1) (a0,r1,(IntKind.i64.wrap (r1+1)))).bind fun r66=>
(match r66 with
| (p38,p39)=>
(cG p38 p39 (p38.length:Int)).bind fun s68=>
(cG (ovl p38 p39.toNat (List.replicate s68.length (Aj.mk 0 false))) 0 p39).bind fun s70=>
some s70)
noncomputable def CR (a0:Aj) (a1:Aj):Option Bool:=
some (a0.Ay==a1.Ay)
noncomputable def Tt (p43:Int) (p143:Int) (p144:Int) (p145:List Aa) (p146:List Aj) (p147:List Int) (p148:Bool) (p149:Int) (p150:Int) (p151:Int) (p152:Int) (p153:Int) (p154:List Int) (p155:Int) (p156:Int):Option ((Int×Int×Int×(List Aa)×(List Aj)×(List Int)×Bool×Int×Int×Int×Int×Int×(List Int)×Int×Int)⊕((Int×Int×(List Aa)×(List Aj)×(List Int)×Bool×Int×Int×Int×Int×Int×(List Int)×Int×Int)⊕(Ap×Aw))):=
some (.inl ((IntKind.i64.wrap (p43+1)),p143,p144,p145,p146,p147,p148,p149,p150,p151,p152,p153,p154,p155,p156))
noncomputable def Qt (a1:Bc) (p43:Int) (r163:Int×Cx) (p170:Int) (p171:Int) (p172:List Aa):Option ((Int×Int×Int×(List Aa)×(List Aj)×(List Int)×Bool×Int×Int×Int×Int×Int×(List Int)×Int×Int)⊕((Int×Int×(List Aa)×(List Aj)×(List Int)×Bool×Int×Int×Int×Int×Int×(List Int)×Int×Int)⊕(Ap×Aw))):=
(mD a1 (Cx.mk (Ap.mk (Ar.mk p170 p171 p172) r163.2.v.Ab r163.2.v.Ah r163.2.v.An) r163.2.a r163.2.Gm)).bind fun r173=>
if r173=true then
(fJ (Ap.mk (Ar.mk p170 p171 p172) r163.2.v.Ab r163.2.v.Ah r163.2.v.An)).bind fun r176=>
some (.inr (.inr (r176.1,r176.2)))
else
Tt p43 p170 p171 p172 r163.2.v.Ab r163.2.v.Ah r163.2.v.An r163.2.a.kind r163.2.a.id r163.2.a.ttl r163.2.a.Dr r163.2.a.clock r163.2.a.Bu r163.2.a.stop r163.2.Gm
noncomputable def Jy (a1:Bc) (r6:(List Aa)) (s:Int×Int×Int×(List Aa)×(List Aj)×(List Int)×Bool×Int×Int×Int×Int×Int×(List Int)×Int×Int):Option ((Int×Int×Int×(List Aa)×(List Aj)×(List Int)×Bool×Int×Int×Int×Int×Int×(List Int)×Int×Int)⊕((Int×Int×(List Aa)×(List Aj)×(List Int)×Bool×Int×Int×Int×Int×Int×(List Int)×Int×Int)⊕(Ap×Aw))):=
match s with
| (p43,p44,p45,p46,p47,p48,p49,p50,p51,p52,p53,p54,p55,p56,p57)=>
if (decide (p43<(r6.length:Int)))=true then
(Co r6 p43).bind fun y158=>
(r6[p43.toNat]?).bind fun y160=>
if (!y160.Bz)=true then
Tt p43 p44 p45 p46 p47 p48 p49 p50 p51 p52 p53 p54 p55 p56 p57
else
(fK (Cx.mk (Ap.mk (Ar.mk p44 p45 p46) p47 p48 p49) (Bc.mk p50 p51 p52 p53 p54 p55 p56) p57) y160.id false).bind fun r163=>
(GF r163.2.v.Ac y160.id).bind fun r165=>
if (r163.1==0)=true then
(g78 r163.2.v.Ac r165.1).bind fun r180=>
Qt a1 p43 r163 r180.clock r180.next r180.Ae
else
Qt a1 p43 r163 r163.2.v.Ac.clock r163.2.v.Ac.next r163.2.v.Ac.Ae
else
some (.inr (.inl (p44,p45,p46,p47,p48,p49,p50,p51,p52,p53,p54,p55,p56,p57)))
noncomputable def Tu (p217:Int) (p309:Int) (p310:Int) (p311:List Aa) (p312:List Aj) (p313:List Int) (p314:Bool) (p315:Int) (p316:Int) (p317:Int) (p318:Int) (p319:Int) (p320:List Int) (p321:Int) (p322:Int):Option ((Int×Int×Int×(List Aa)×(List Aj)×(List Int)×Bool×Int×Int×Int×Int×Int×(List Int)×Int×Int)⊕((Int×Int×(List Aa)×(List Aj)×(List Int)×Bool×Int×Int×Int×Int×Int×(List Int)×Int×Int)⊕(Ap×Aw))):=
some (.inl ((IntKind.i64.wrap (p217+1)),p309,p310,p311,p312,p313,p314,p315,p316,p317,p318,p319,p320,p321,p322))
noncomputable def Qu (a1:Bc) (p217:Int) (r329:Int×Cx) (p334:List Aj):Option ((Int×Int×Int×(List Aa)×(List Aj)×(List Int)×Bool×Int×Int×Int×Int×Int×(List Int)×Int×Int)⊕((Int×Int×(List Aa)×(List Aj)×(List Int)×Bool×Int×Int×Int×Int×Int×(List Int)×Int×Int)⊕(Ap×Aw))):=
(mD a1 (Cx.mk (Ap.mk r329.2.v.Ac p334 r329.2.v.Ah r329.2.v.An) r329.2.a r329.2.Gm)).bind fun r335=>
if r335=true then
(fJ (Ap.mk r329.2.v.Ac p334 r329.2.v.Ah r329.2.v.An)).bind fun r338=>
some (.inr (.inr (r338.1,r338.2)))
else
Tu p217 r329.2.v.Ac.clock r329.2.v.Ac.next r329.2.v.Ac.Ae p334 r329.2.v.Ah r329.2.v.An r329.2.a.kind r329.2.a.id r329.2.a.ttl r329.2.a.Dr r329.2.a.clock r329.2.a.Bu r329.2.a.stop r329.2.Gm
noncomputable def Ig (a1:Bc) (r184:(List Aj)) (s:Int×Int×Int×(List Aa)×(List Aj)×(List Int)×Bool×Int×Int×Int×Int×Int×(List Int)×Int×Int):Option ((Int×Int×Int×(List Aa)×(List Aj)×(List Int)×Bool×Int×Int×Int×Int×Int×(List Int)×Int×Int)⊕((Int×Int×(List Aa)×(List Aj)×(List Int)×Bool×Int×Int×Int×Int×Int×(List Int)×Int×Int)⊕(Ap×Aw))):=
match s with
| (p217,p218,p219,p220,p221,p222,p223,p224,p225,p226,p227,p228,p229,p230,p231)=>
if (decide (p217<(r184.length:Int)))=true then
(Co r184 p217).bind fun y324=>
(r184[p217.toNat]?).bind fun y326=>
if (!y326.Ji)=true then
Tu p217 p218 p219 p220 p221 p222 p223 p224 p225 p226 p227 p228 p229 p230 p231
else
(fK (Cx.mk (Ap.mk (Ar.mk p218 p219 p220) p221 p222 p223) (Bc.mk p224 p225 p226 p227 p228 p229 p230) p231) y326.Ay false).bind fun r329=>
if (r329.1==0)=true then
(CQ r329.2.v.Ab (fun z474_0=>CR z474_0 y326)).bind fun r342=>
Qu a1 p217 r329 r342
else
Qu a1 p217 r329 r329.2.v.Ab
else
some (.inr (.inl (p218,p219,p220,p221,p222,p223,p224,p225,p226,p227,p228,p229,p230,p231)))
noncomputable def AdC (a0:Ap) (a1:Bc):Option (Ap×Aw):=
(g82 a0.Ac a1.clock).bind fun r1=>
if (a1.stop==1)=true then
(fJ (Ap.mk r1.1 a0.Ab a0.Ah a0.An)).bind fun r4=>
some (r4.1,r4.2)
else
(g66 r1.1.Ae).bind fun r6=>
(Ca (Jy a1 r6) (0,r1.1.clock,r1.1.next,r1.1.Ae,a0.Ab,a0.Ah,a0.An,a1.kind,a1.id,a1.ttl,a1.Dr,a1.clock,a1.Bu,a1.stop,0)).bind fun r182=>
(match r182 with
| .inl (p108,p109,p110,p111,p112,p113,p114,p115,p116,p117,p118,p119,p120,p121)=>
(mC p111).bind fun r184=>
(Ca (Ig a1 r184) (0,p108,p109,p110,p111,p112,p113,p114,p115,p116,p117,p118,p119,p120,p121)).bind fun r344=>
(match r344 with
| .inl (p278,p279,p280,p281,p282,p283,p284,p285,p286,p287,p288,p289,p290,p291)=>
some ((Ap.mk (Ar.mk p278 p279 p280) p281 p282 p283),(Aw.mk 0 0))
| .inr q=>some q)
| .inr q=>some q)
noncomputable def CO (a0:Ap) (a1:Bc):Option (Ap×Aw):=
(AdA a0).bind fun r1=>
(rD a1.kind 1 6).bind fun r3=>
if (!r3)=true then
(bX r1 16).bind fun r6=>
some (r6.1,r6.2)
else
if (bif r1.An then (a1.kind != 6) else false)=true then
(bX r1 14).bind fun r9=>
some (r9.1,r9.2)
else
if (a1.kind==1)=true then
(AdB r1 a1).bind fun r12=>
some (r12.1,r12.2)
else
if (a1.kind==2)=true then
(g80 r1.Ac a1.id a1.ttl).bind fun r15=>
(CP r1 r15.1 r15.2).bind fun r17=>
some (r17.1,r17.2)
else
if (a1.kind==3)=true then
(g75 r1.Ac a1.id).bind fun r20=>
(CP r1 r20.1 r20.2).bind fun r22=>
some (r22.1,r22.2)
else
if (a1.kind==4)=true then
(AdC r1 a1).bind fun r25=>
some (r25.1,r25.2)
else
some ((Ap.mk r1.Ac r1.Ab r1.Ah (a1.kind==5)),(Aw.mk 0 0))
noncomputable def CN (a0:Ap) (a1:Bc):Option (Ap×Aw×Int):=
(g48 a0).bind fun r1=>
(if ((!r1)==false)=true then Adz a1 else some default).bind fun r3=>
if (bif (!r1) then true else (!r3))=true then
some ((Ap.mk (Ar.mk 0 0 ([]:List Aa)) ([]:List Aj) ([]:List Int) false),(Aw.mk 0 0),1)
else
(CO a0 a1).bind fun r6=>
some (r6.1,r6.2,0)
noncomputable def oS (a0:Int) (a1:Int) (a2:Int):Option Bool:=
some (bif (decide (a0≥a1)) then (decide (a0≤a2)) else false)
noncomputable def Zl (a0:Ar) (s:Int):Option ((Int)⊕(Unit⊕Bool)):=
match s with
| p16=>
if (decide (p16<(a0.Ae.length:Int)))=true then
(Co a0.Ae p16).bind fun y29=>
(oS y29.id 1 (IntKind.i64.wrap (a0.next-1))).bind fun r31=>
(if (((!r31)==false)&&((decide (p16>0))==true))=true then Co a0.Ae (IntKind.i64.wrap (p16-1)) else some default).bind fun y33=>
Bx ((bif (bif (bif (bif (!r31) then true else (bif (decide (p16>0)) then (decide (y33.id≥y29.id)) else false)) then true else (decide (y29.Bg<0))) then true else (decide (y29.Bg>y29.cap))) then true else (bif (!y29.Bz) then (decide (y29.Bg≤a0.clock)) else false))) fun v35=>
if v35=true then
some (.inr (.inr false))
else
some (.inl (IntKind.i64.wrap (p16+1)))
else
some (.inr (.inl ()))
noncomputable def g18 (a0:Ar):Option Bool:=
(if ((decide (a0.clock<0))==false)=true then oS a0.next 1 1000000 else some default).bind fun r1=>
Bx ((bif (bif (decide (a0.clock<0)) then true else (!r1)) then true else (decide ((a0.Ae.length:Int)>40)))) fun v3=>
if v3=true then
some false
else
(Ca (Zl a0) 0).bind fun r38=>
(match r38 with
| .inl ()=>
some true
| .inr q=>some q)
noncomputable def Zu (a0:List Int) (a1:Int) (s:Int):Option ((Int)⊕(Unit⊕Bool)):=
match s with
| p13=>
if (decide (p13<(a0.length:Int)))=true then
(Co a0 p13).bind fun y28=>
(oS y28 1 (IntKind.i64.wrap (a1-1))).bind fun r30=>
(if (((!r30)==false)&&((decide (p13>0))==true))=true then Co a0 (IntKind.i64.wrap (p13-1)) else some default).bind fun y32=>
(if (((!r30)==false)&&((decide (p13>0))==true))=true then Co a0 p13 else some default).bind fun y34=>
Bx ((bif (!r30) then true else (bif (decide (p13>0)) then (decide (y32≥y34)) else false))) fun v36=>
if v36=true then
some (.inr (.inr false))
else
some (.inl (IntKind.i64.wrap (p13+1)))
else
some (.inr (.inl ()))
noncomputable def g85 (a0:List Int) (a1:Int):Option Bool:=
(Ca (Zu a0 a1) 0).bind fun r39=>
(match r39 with
| .inl ()=>
some true
| .inr q=>some q)
noncomputable def fQ (a0:Ar) (a1:Int) (s:Int):Option ((Int)⊕(Unit⊕Int)):=
match s with
| p5=>
if (decide (p5<(a0.Ae.length:Int)))=true then
(Co a0.Ae p5).bind fun y12=>
if (y12.id==a1)=true then
some (.inr (.inr p5))
else
some (.inl (IntKind.i64.wrap (p5+1)))
else
some (.inr (.inl ()))
noncomputable def GG (a0:Ar) (a1:Int):Option Int:=
(Ca (fQ a0 a1) 0).bind fun r15=>
(match r15 with
| .inl ()=>
some (-1)
| .inr q=>some q)
noncomputable def Xs (a0:Ap) (a1:Int) (s:Int):Option ((Int)⊕(Unit⊕Int)):=
match s with
| p5=>
if (decide (p5<(a0.Ab.length:Int)))=true then
(Co a0.Ab p5).bind fun y12=>
if (y12.Ay==a1)=true then
some (.inr (.inr p5))
else
some (.inl (IntKind.i64.wrap (p5+1)))
else
some (.inr (.inl ()))
noncomputable def AcQ (a0:Ap) (a1:Int):Option Int:=
(Ca (Xs a0 a1) 0).bind fun r15=>
(match r15 with
| .inl ()=>
some (-1)
| .inr q=>some q)
noncomputable def fR (a0:Ap) (s:Int):Option ((Int)⊕(Unit⊕Int)):=
match s with
| p13=>
if (decide (p13<(a0.Ah.length:Int)))=true then
(Co a0.Ah p13).bind fun y28=>
(GG a0.Ac y28).bind fun r30=>
(if ((decide (r30<0))==true)=true then Co a0.Ah p13 else some default).bind fun y32=>
(if ((decide (r30<0))==true)=true then AcQ a0 y32 else some default).bind fun r34=>
if (bif (decide (r30<0)) then (decide (r34<0)) else false)=true then
(Co a0.Ah p13).bind fun y37=>
some (.inr (.inr y37))
else
some (.inl (IntKind.i64.wrap (p13+1)))
else
some (.inr (.inl ()))
noncomputable def g93 (a0:Ap):Option Int:=
(Ca (fR a0) 0).bind fun r39=>
(match r39 with
| .inl ()=>
some 0
| .inr q=>some q)
noncomputable def Zp (a0:Ap) (s:Int):Option ((Int)⊕(Unit⊕Bool)):=
match s with
| p20=>
if (decide (p20<(a0.Ab.length:Int)))=true then
(Co a0.Ab p20).bind fun y35=>
(oS y35.Ay 1 (IntKind.i64.wrap (a0.Ac.next-1))).bind fun r37=>
(if (((!r37)==false)&&((decide (p20>0))==true))=true then Co a0.Ab (IntKind.i64.wrap (p20-1)) else some default).bind fun y39=>
(if ((bif (!r37) then true else (bif (decide (p20>0)) then (decide (y39.Ay≥y35.Ay)) else false))==false)=true then GG a0.Ac y35.Ay else some default).bind fun r41=>
Bx ((bif (bif (!r37) then true else (bif (decide (p20>0)) then (decide (y39.Ay≥y35.Ay)) else false)) then true else (decide (r41≥0)))) fun v43=>
if v43=true then
some (.inr (.inr false))
else
some (.inl (IntKind.i64.wrap (p20+1)))
else
some (.inr (.inl ()))
noncomputable def g46 (a0:Ap):Option Bool:=
(g18 a0.Ac).bind fun r1=>
(if ((bif (bif (!r1) then true else (decide ((a0.Ab.length:Int)>40))) then true else (decide ((a0.Ah.length:Int)>80)))==false)=true then g85 a0.Ah a0.Ac.next else some default).bind fun r3=>
Bx ((bif (bif (bif (!r1) then true else (decide ((a0.Ab.length:Int)>40))) then true else (decide ((a0.Ah.length:Int)>80))) then true else (!r3))) fun v5=>
if v5=true then
some false
else
(Ca (Zp a0) 0).bind fun r46=>
(match r46 with
| .inl ()=>
(g93 a0).bind fun r48=>
some (r48==0)
| .inr q=>some q)
noncomputable def Tc (a0:Bc) (s:Int):Option ((Int)⊕(Unit⊕Bool)):=
match s with
| p10=>
if (decide (p10<(a0.Bu.length:Int)))=true then
(Co a0.Bu p10).bind fun y19=>
(oS y19 0 2).bind fun r21=>
if (!r21)=true then
some (.inr (.inr false))
else
some (.inl (IntKind.i64.wrap (p10+1)))
else
some (.inr (.inl ()))
noncomputable def AcI (a0:Bc):Option Bool:=
(if ((decide ((a0.Bu.length:Int)>4096))==false)=true then oS a0.stop 0 2 else some default).bind fun r1=>
if (bif (decide ((a0.Bu.length:Int)>4096)) then true else (!r1))=true then
some false
else
(Ca (Tc a0) 0).bind fun r24=>
(match r24 with
| .inl ()=>
some true
| .inr q=>some q)
noncomputable def iW (a0:Ar):Option Ar:=
if (([]:List Aa).length+a0.Ae.length)*32≤140737488355328 then
some (Ar.mk a0.clock a0.next (([]:List Aa)++a0.Ae))
else none
noncomputable def g74 (a0:Ar) (a1:Int):Option (Ar×Int):=
(GG a0 a1).bind fun r1=>
if (decide (r1<0))=true then
some (a0,5)
else
(iW a0).bind fun r4=>
(Co r4.Ae r1).bind fun y6=>
(r4.Ae[r1.toNat]?).bind fun y8=>
some ((Ar.mk r4.clock r4.next (r4.Ae.set r1.toNat (Aa.mk y8.id y8.Bg y8.cap true))),0)
noncomputable def g53 (a0:Int) (a1:Int):Option Int:=
if (decide (a0>(IntKind.i64.wrap (9223372036854775807-a1))))=true then
some 9223372036854775807
else
some (IntKind.i64.wrap (a0+a1))
noncomputable def g79 (a0:Ar) (a1:Int) (a2:Int):Option (Ar×Int):=
(GG a0 a1).bind fun r1=>
if (decide (a2<1))=true then
some (a0,4)
else
if (decide (r1<0))=true then
some (a0,5)
else
(Co a0.Ae r1).bind fun y5=>
if y5.Bz=true then
some (a0,13)
else
(iW a0).bind fun r8=>
(Co r8.Ae r1).bind fun y10=>
(r8.Ae[r1.toNat]?).bind fun y12=>
(g53 a0.clock a2).bind fun r14=>
some ((Ar.mk r8.clock r8.next (r8.Ae.set r1.toNat (Aa.mk y12.id (if r14<y12.cap then r14 else y12.cap) y12.cap y12.Bz))),0)
noncomputable def Vk (p103:Int) (p132:Int):Option ((Int×Int)⊕(Int)):=
some (.inl (p132,(IntKind.i64.wrap (p103+1))))
noncomputable def Zs (a0:Ar) (a1:Int) (p45:List Aa) (s:Int×Int):Option ((Int×Int)⊕(Int)):=
match s with
| (p102,p103)=>
if (decide (p103<(p45.length:Int)))=true then
(Co p45 p103).bind fun y134=>
(p45[p103.toNat]?).bind fun y136=>
(if (((bif (!y136.Bz) then (decide (y136.Bg≤(if a1>a0.clock then a1 else a0.clock))) else false)==true)&&((decide (p102<0))==false))=true then Co p45 p102 else some default).bind fun y138=>
(if (((bif (!y136.Bz) then (decide (y136.Bg≤(if a1>a0.clock then a1 else a0.clock))) else false)==true)&&((decide (p102<0))==false))=true then p45[p102.toNat]? else some default).bind fun y140=>
Bx ((bif (bif (!y136.Bz) then (decide (y136.Bg≤(if a1>a0.clock then a1 else a0.clock))) else false) then (bif (decide (p102<0)) then true else (decide (y136.Bg<y140.Bg))) else false)) fun v142=>
if v142=true then
Vk p103 p103
else
Vk p103 p102
else
some (.inr p102)
noncomputable def fP (a0:Ar) (a1:Int) (r1:Ar) (s:(List Int)×(List Aa)):Option (((List Int)×(List Aa))⊕(Ar×(List Int))):=
match s with
| (p44,p45)=>
(Ca (Zs a0 a1 p45) ((-1),0)).bind fun r145=>
(match r145 with
| p119=>
if (decide (p119<0))=true then
some (.inr ((Ar.mk (if a1>a0.clock then a1 else a0.clock) r1.next p45),p44))
else
(Co p45 p119).bind fun y148=>
(p45[p119.toNat]?).bind fun y150=>
(Co (p45.set p119.toNat (Aa.mk y150.id y150.Bg y150.cap true)) p119).bind fun y152=>
((p45.set p119.toNat (Aa.mk y150.id y150.Bg y150.cap true))[p119.toNat]?).bind fun y154=>
if (p44.length+([y154.id]:List Int).length)*8≤140737488355328 then
some (.inl ((p44++([y154.id]:List Int)),(p45.set p119.toNat (Aa.mk y150.id y150.Bg y150.cap true))))
else none)
noncomputable def g81 (a0:Ar) (a1:Int):Option (Ar×(List Int)):=
(iW a0).bind fun r1=>
(Ca (fP a0 a1 r1) (([]:List Int),r1.Ae)).bind fun r157=>
(match r157 with
| q=>some q)
noncomputable def bW (a0:Ap):Option Ap:=
(iW a0.Ac).bind fun r1=>
if (([]:List Aj).length+a0.Ab.length)*16≤140737488355328 then
if (([]:List Int).length+a0.Ah.length)*8≤140737488355328 then
some (Ap.mk r1 (([]:List Aj)++a0.Ab) (([]:List Int)++a0.Ah) a0.An)
else none
else none
noncomputable def g70 (a0:Ar) (a1:Int) (a2:Int):Option (Ar×Int×Int):=
if (bif (decide (a1<1)) then true else (decide (a2<a1)))=true then
some (a0,0,4)
else
if (a0.clock==9223372036854775807)=true then
some (a0,0,11)
else
Bx ((bif ((a0.Ae.length:Int)==40) then true else (a0.next==1000000))) fun v3=>
if v3=true then
some (a0,0,9)
else
(iW a0).bind fun r6=>
(g53 a0.clock a1).bind fun r8=>
(g53 a0.clock a2).bind fun r10=>
if (r6.Ae.length+([(Aa.mk a0.next r8 r10 false)]:List Aa).length)*32≤140737488355328 then
some ((Ar.mk r6.clock (IntKind.i64.wrap (r6.next+1)) (r6.Ae++([(Aa.mk a0.next r8 r10 false)]:List Aa))),a0.next,0)
else none
noncomputable def Vl (a0:List Int) (a1:Int) (s:(List Int)×Int):Option (((List Int)×Int)⊕((List Int))):=
match s with
| (p10,p11)=>
(if ((decide (p11<(a0.length:Int)))==true)=true then Co a0 p11 else some default).bind fun y23=>
Bx ((bif (decide (p11<(a0.length:Int))) then (decide (y23<a1)) else false)) fun v25=>
if v25=true then
(Co a0 p11).bind fun y28=>
if (p10.length+([y28]:List Int).length)*8≤140737488355328 then
some (.inl ((p10++([y28]:List Int)),(IntKind.i64.wrap (p11+1))))
else none
else
some (.inr p10)
noncomputable def Zw (a0:List Int) (a3:Int) (p35:List Int) (p41:Int):Option ((List Int)×Int):=
(cG a0 p41 (a0.length:Int)).bind fun s42=>
if (p35.length+s42.length)*8≤140737488355328 then
if (a3==2)=true then
some (p35++s42,15)
else
some (p35++s42,0)
else none
noncomputable def Zv (a0:List Int) (a1:Int) (a3:Int) (p22:List Int) (p35:List Int):Option ((List Int)×Int):=
(if ((decide ((p22.length:Int)<(a0.length:Int)))==true)=true then Co a0 (p22.length:Int) else some default).bind fun y36=>
Bx ((bif (decide ((p22.length:Int)<(a0.length:Int))) then (y36==a1) else false)) fun v38=>
if v38=true then
Zw a0 a3 p35 (IntKind.i64.wrap ((p22.length:Int)+1))
else
Zw a0 a3 p35 (p22.length:Int)
noncomputable def g86 (a0:List Int) (a1:Int) (a2:Bool) (a3:Int):Option ((List Int)×Int):=
if (a3==1)=true then
some (a0,13)
else
(Ca (Vl a0 a1) (([]:List Int),0)).bind fun r31=>
(match r31 with
| p22=>
if a2=true then
if (p22.length+([a1]:List Int).length)*8≤140737488355328 then
Zv a0 a1 a3 p22 (p22++([a1]:List Int))
else none
else
Zv a0 a1 a3 p22 p22)
noncomputable def Qn  (s:Int×(List Aj)):Option ((Int×(List Aj))⊕((List Aj))):=
match s with
| (p8,p9)=>
if (decide (p8<(p9.length:Int)))=true then
(Co p9 p8).bind fun y19=>
(p9[p8.toNat]?).bind fun y21=>
some (.inl ((IntKind.i64.wrap (p8+1)),(p9.set p8.toNat (Aj.mk y21.Ay true))))
else
some (.inr p9)
noncomputable def eZ (a0:Ap):Option Ap:=
(bW a0).bind fun r1=>
(Ca (Qn) (0,r1.Ab)).bind fun r23=>
(match r23 with
| p17=>
some (Ap.mk r1.Ac p17 r1.Ah true))
noncomputable def lO (a0:Bc) (a1:Int):Option Int:=
if (decide (a1<(a0.Bu.length:Int)))=true then
(Co a0.Bu a1).bind fun y2=>
some y2
else
some 0
noncomputable def Jv (a0:Ap) (a1:Bc) (r1:Ar×Int×Int) (p4:Int):Option (Ap×Aw):=
if (p4 != 0)=true then
some (a0,(Aw.mk p4 0))
else
(bW a0).bind fun r6=>
if (r6.Ab.length+([(Aj.mk r1.2.1 false)]:List Aj).length)*16≤140737488355328 then
if (a1.stop==1)=true then
(eZ (Ap.mk (Ar.mk r6.Ac.clock r1.1.next r6.Ac.Ae) (r6.Ab++([(Aj.mk r1.2.1 false)]:List Aj)) r6.Ah r6.An)).bind fun r10=>
some (r10,(Aw.mk 15 0))
else
(lO a1 0).bind fun r12=>
(g86 r6.Ah r1.2.1 true r12).bind fun r14=>
if (a1.stop==2)=true then
(eZ (Ap.mk (Ar.mk r6.Ac.clock r1.1.next r6.Ac.Ae) (r6.Ab++([(Aj.mk r1.2.1 false)]:List Aj)) r14.1 r6.An)).bind fun r17=>
some (r17,(Aw.mk 15 0))
else
if (r14.2 != 0)=true then
(Co (r6.Ab++([(Aj.mk r1.2.1 false)]:List Aj)) (IntKind.i64.wrap (((r6.Ab++([(Aj.mk r1.2.1 false)]:List Aj)).length:Int)-1))).bind fun y20=>
((r6.Ab++([(Aj.mk r1.2.1 false)]:List Aj))[(IntKind.i64.wrap (((r6.Ab++([(Aj.mk r1.2.1 false)]:List Aj)).length:Int)-1)).toNat]?).bind fun y22=>
some ((Ap.mk (Ar.mk r6.Ac.clock r1.1.next r6.Ac.Ae) ((r6.Ab++([(Aj.mk r1.2.1 false)]:List Aj)).set ((IntKind.i64.wrap (((r6.Ab++([(Aj.mk r1.2.1 false)]:List Aj)).length:Int)-1)).toNat) (Aj.mk y22.Ay true)) r14.1 r6.An),(Aw.mk r14.2 0))
else
(cG (r6.Ab++([(Aj.mk r1.2.1 false)]:List Aj)) 0 (IntKind.i64.wrap (((r6.Ab++([(Aj.mk r1.2.1 false)]:List Aj)).length:Int)-1))).bind fun s24=>
some ((Ap.mk r1.1 s24 r14.1 r6.An),(Aw.mk 0 r1.2.1))
else none
noncomputable def AcW (a0:Ap) (a1:Bc):Option (Ap×Aw):=
(g70 a0.Ac a1.ttl a1.Dr).bind fun r1=>
if (bif (r1.2.2==0) then ((a0.Ab.length:Int)==40) else false)=true then
Jv a0 a1 r1 9
else
Jv a0 a1 r1 r1.2.2
noncomputable def g76 (a0:Ar) (a1:Int):Option (Ar×Int):=
(GG a0 a1).bind fun r1=>
if (decide (r1<0))=true then
some (a0,5)
else
(Co a0.Ae r1).bind fun y4=>
if (!y4.Bz)=true then
some (a0,13)
else
(cG a0.Ae 0 r1).bind fun s7=>
(cG a0.Ae (IntKind.i64.wrap (r1+1)) (a0.Ae.length:Int)).bind fun s9=>
if (([]:List Aa).length+s7.length)*32≤140737488355328 then
if ((([]:List Aa)++s7).length+s9.length)*32≤140737488355328 then
some ((Ar.mk a0.clock a0.next ((([]:List Aa)++s7)++s9)),0)
else none
else none
noncomputable def Xu (p10:Int) (p29:List Aj):Option (((List Aj)×Int)⊕((List Aj))):=
some (.inl (p29,(IntKind.i64.wrap (p10+1))))
noncomputable def Qr (a0:List Aj) (a1:Int) (s:(List Aj)×Int):Option (((List Aj)×Int)⊕((List Aj))):=
match s with
| (p9,p10)=>
if (decide (p10<(a0.length:Int)))=true then
(Co a0 p10).bind fun y31=>
if (y31.Ay != a1)=true then
(Co a0 p10).bind fun y34=>
if (p9.length+([y34]:List Aj).length)*16≤140737488355328 then
Xu p10 (p9++([y34]:List Aj))
else none
else
Xu p10 p9
else
some (.inr p9)
noncomputable def AcZ (a0:List Aj) (a1:Int):Option (List Aj):=
(Ca (Qr a0 a1) (([]:List Aj),0)).bind fun r37=>
(match r37 with
| p21=>
some p21)
noncomputable def Te (p28:Int) (p87:Int) (p88:Int) (p89:Int) (p90:List Aa) (p91:List Int):Option ((Int×Int×Int×Int×(List Aa)×(List Int))⊕((Int×Int×Int×(List Aa)×(List Int))⊕Ap)):=
some (.inl (p87,(IntKind.i64.wrap (p28+1)),p88,p89,p90,p91))
noncomputable def Qo (a1:Bc) (r1:Ap) (p27:Int) (p28:Int) (r100:(List Int)×Int) (p105:Int) (p106:Int) (p107:List Aa):Option ((Int×Int×Int×Int×(List Aa)×(List Int))⊕((Int×Int×Int×(List Aa)×(List Int))⊕Ap)):=
if (a1.stop==2)=true then
(eZ (Ap.mk (Ar.mk p105 p106 p107) r1.Ab r100.1 r1.An)).bind fun r109=>
some (.inr (.inr r109))
else
Te p28 (IntKind.i64.wrap (p27+1)) p105 p106 p107 r100.1
noncomputable def Lm (a0:Ap) (a1:Bc) (r1:Ap) (s:Int×Int×Int×Int×(List Aa)×(List Int)):Option ((Int×Int×Int×Int×(List Aa)×(List Int))⊕((Int×Int×Int×(List Aa)×(List Int))⊕Ap)):=
match s with
| (p27,p28,p29,p30,p31,p32)=>
if (decide (p28<(a0.Ac.Ae.length:Int)))=true then
(Co a0.Ac.Ae p28).bind fun y93=>
(Co a0.Ac.Ae p28).bind fun y95=>
if (!y95.Bz)=true then
Te p28 p27 p29 p30 p31 p32
else
(lO a1 p27).bind fun r98=>
(g86 p32 y93.id false r98).bind fun r100=>
if (r100.2==0)=true then
(g76 (Ar.mk p29 p30 p31) y93.id).bind fun r113=>
Qo a1 r1 p27 p28 r100 r113.1.clock r113.1.next r113.1.Ae
else
Qo a1 r1 p27 p28 r100 p29 p30 p31
else
some (.inr (.inl (p27,p29,p30,p31,p32)))
noncomputable def Tf (p140:Int) (p190:Int) (p191:List Aj) (p192:List Int):Option ((Int×Int×(List Aj)×(List Int))⊕(((List Aj)×(List Int))⊕Ap)):=
some (.inl (p190,(IntKind.i64.wrap (p140+1)),p191,p192))
noncomputable def Qp (a1:Bc) (r1:Ap) (p64:Int) (p65:Int) (p66:List Aa) (p139:Int) (p140:Int) (r201:(List Int)×Int) (p208:List Aj):Option ((Int×Int×(List Aj)×(List Int))⊕(((List Aj)×(List Int))⊕Ap)):=
if (a1.stop==2)=true then
(eZ (Ap.mk (Ar.mk p64 p65 p66) p208 r201.1 r1.An)).bind fun r210=>
some (.inr (.inr r210))
else
Tf p140 (IntKind.i64.wrap (p139+1)) p208 r201.1
noncomputable def Jb (a0:Ap) (a1:Bc) (r1:Ap) (p64:Int) (p65:Int) (p66:List Aa) (s:Int×Int×(List Aj)×(List Int)):Option ((Int×Int×(List Aj)×(List Int))⊕(((List Aj)×(List Int))⊕Ap)):=
match s with
| (p139,p140,p141,p142)=>
if (decide (p140<(a0.Ab.length:Int)))=true then
(Co a0.Ab p140).bind fun y194=>
if (!y194.Ji)=true then
Tf p140 p139 p141 p142
else
(Co a0.Ab p140).bind fun y197=>
(lO a1 p139).bind fun r199=>
(g86 p142 y197.Ay false r199).bind fun r201=>
if (r201.2==0)=true then
(Co a0.Ab p140).bind fun y214=>
(AcZ p141 y214.Ay).bind fun r216=>
Qp a1 r1 p64 p65 p66 p139 p140 r201 r216
else
Qp a1 r1 p64 p65 p66 p139 p140 r201 p141
else
some (.inr (.inl (p141,p142)))
noncomputable def lL (a0:Ap) (a1:Bc):Option Ap:=
(bW a0).bind fun r1=>
(Ca (Lm a0 a1 r1) (0,0,r1.Ac.clock,r1.Ac.next,r1.Ac.Ae,r1.Ah)).bind fun r115=>
(match r115 with
| .inl (p63,p64,p65,p66,p67)=>
(Ca (Jb a0 a1 r1 p64 p65 p66) (p63,0,r1.Ab,p67)).bind fun r218=>
(match r218 with
| .inl (p169,p170)=>
some (Ap.mk (Ar.mk p64 p65 p66) p169 p170 r1.An)
| .inr q=>some q)
| .inr q=>some q)
noncomputable def Hn (a0:Ap) (p27:Int) (p28:Int) (p29:Int) (p30:List Aa) (p31:List Aj) (p32:List Int) (p33:Bool):Option (Ap×Aw):=
if (p27 != 0)=true then
some (a0,(Aw.mk p27 0))
else
some ((Ap.mk (Ar.mk p28 p29 p30) p31 p32 p33),(Aw.mk 0 0))
noncomputable def BY (a0:Ap) (a1:Bc):Option (Ap×Aw):=
(oS a1.kind 1 6).bind fun r1=>
if (!r1)=true then
some (a0,(Aw.mk 16 0))
else
if (bif a0.An then (a1.kind != 6) else false)=true then
some (a0,(Aw.mk 14 0))
else
(bW a0).bind fun r5=>
if (a1.kind==1)=true then
(AcW a0 a1).bind fun r37=>
some (r37.1,r37.2)
else
if (a1.kind==2)=true then
(g79 a0.Ac a1.id a1.ttl).bind fun r40=>
Hn a0 r40.2 r40.1.clock r40.1.next r40.1.Ae r5.Ab r5.Ah r5.An
else
if (a1.kind==3)=true then
(g74 a0.Ac a1.id).bind fun r43=>
Hn a0 r43.2 r43.1.clock r43.1.next r43.1.Ae r5.Ab r5.Ah r5.An
else
if (a1.kind==4)=true then
(g81 a0.Ac a1.clock).bind fun r46=>
if (a1.stop==1)=true then
(eZ (Ap.mk r46.1 r5.Ab r5.Ah r5.An)).bind fun r49=>
some (r49,(Aw.mk 15 0))
else
(lL (Ap.mk r46.1 r5.Ab r5.Ah r5.An) a1).bind fun r51=>
if (bif r51.An then (!r5.An) else false)=true then
some (r51,(Aw.mk 15 0))
else
Hn a0 0 r51.Ac.clock r51.Ac.next r51.Ac.Ae r51.Ab r51.Ah r51.An
else
if (a1.kind==5)=true then
Hn a0 0 r5.Ac.clock r5.Ac.next r5.Ac.Ae r5.Ab r5.Ah true
else
if (a1.kind==6)=true then
Hn a0 0 r5.Ac.clock r5.Ac.next r5.Ac.Ae r5.Ab r5.Ah false
else
Hn a0 0 r5.Ac.clock r5.Ac.next r5.Ac.Ae r5.Ab r5.Ah r5.An
noncomputable def Adv (a0:Ap) (a1:Bc):Option (Ap×Aw×Int):=
(g46 a0).bind fun r1=>
(if ((!r1)==false)=true then AcI a1 else some default).bind fun r3=>
if (bif (!r1) then true else (!r3))=true then
some ((Ap.mk (Ar.mk 0 0 ([]:List Aa)) ([]:List Aj) ([]:List Int) false),(Aw.mk 0 0),1)
else
(BY a0 a1).bind fun r6=>
(bW r6.1).bind fun r8=>
some (r8,r6.2,0)
noncomputable def Adw (a0:Bc) (a1:Int):Option Int:=
(g91 a0.Bu a1).bind fun r1=>
if (decide (r1<0))=true then
some (-1)
else
some r1
noncomputable def mB (a0:Bc):Option Bc:=
(g43 a0.Bu).bind fun r1=>
some (Bc.mk a0.kind a0.id a0.ttl a0.Dr a0.clock r1 a0.stop)
noncomputable def rC (a0:Aw) (a1:Aw):Option Bool:=
if (a0.code_ != a1.code_)=true then
some false
else
if (a0.id != a1.id)=true then
some false
else
some true
noncomputable def Adx (a0:Bc) (a1:Bc):Option Bool:=
if (a0.kind != a1.kind)=true then
some false
else
if (a0.id != a1.id)=true then
some false
else
if (a0.ttl != a1.ttl)=true then
some false
else
if (a0.Dr != a1.Dr)=true then
some false
else
if (a0.clock != a1.clock)=true then
some false
else
(g36 a0.Bu a1.Bu).bind fun r6=>
if (!r6)=true then
some false
else
if (a0.stop != a1.stop)=true then
some false
else
some true
noncomputable def Ady (a0:Bc) (a1:Int):Option (Int×(List Int)):=
(g37 a0.Bu a1).bind fun r1=>
if r1.2.length=a0.Bu.length then
some (r1.1,r1.2)
else none
noncomputable def g437 (a0:Ap) (a1:Bc):Option Bool:=
(g45 a0 1048576).bind fun r1=>
if (decide (r1<0))=true then
some true
else
(Adw a1 r1).bind fun r4=>
if (decide (r4<0))=true then
some true
else
(g47 a0).bind fun r7=>
(mB a1).bind fun r9=>
(Adv r7 r9).bind fun r11=>
(g47 a0).bind fun r14=>
(mB a1).bind fun r16=>
(CN r14 r16).bind fun r18=>
(g49 r18.1 r11.1).bind fun r20=>
(if ((!r20)==false)=true then rC r18.2.1 r11.2.1 else some default).bind fun r22=>
Bx ((bif (bif (!r20) then true else (!r22)) then true else (r18.2.2 != r11.2.2))) fun v24=>
if v24=true then
some false
else
(g47 a0).bind fun r27=>
(g49 r14 r27).bind fun r29=>
if (!r29)=true then
some false
else
(mB a1).bind fun r32=>
(Adx r16 r32).bind fun r34=>
if (!r34)=true then
some false
else
(iY r14 1).bind fun r37=>
if r37.2.1.length=r14.Ac.Ae.length then
if r37.2.2.1.length=r14.Ab.length then
if r37.2.2.2.length=r14.Ah.length then
(Ady r16 r37.1).bind fun r42=>
if r42.2.length=r16.Bu.length then
(if ((decide (r42.1<0))==false)=true then g49 r18.1 r11.1 else some default).bind fun r45=>
(if ((bif (decide (r42.1<0)) then true else (!r45))==false)=true then rC r18.2.1 r11.2.1 else some default).bind fun r47=>
Bx ((bif (bif (bif (decide (r42.1<0)) then true else (!r45)) then true else (!r47)) then true else (r18.2.2 != r11.2.2))) fun v49=>
if v49=true then
some false
else
(iY r18.1 1).bind fun r52=>
if r52.2.1.length=r18.1.Ac.Ae.length then
if r52.2.2.1.length=r18.1.Ab.length then
if r52.2.2.2.length=r18.1.Ah.length then
(CK (Ap.mk (Ar.mk r18.1.Ac.clock r18.1.Ac.next r52.2.1) r52.2.2.1 r52.2.2.2 r18.1.An) 1).bind fun r57=>
if (decide (r57<0))=true then
some false
else
if (r57 != r52.1)=true then
some false
else
(g47 a0).bind fun r61=>
(mB a1).bind fun r63=>
(CN r61 r63).bind fun r65=>
(g49 r65.1 r11.1).bind fun r68=>
(if ((!r68)==false)=true then rC r65.2.1 r11.2.1 else some default).bind fun r70=>
Bx ((bif (bif (!r68) then true else (!r70)) then true else (r65.2.2 != r11.2.2))) fun v72=>
if v72=true then
some false
else
(CK (Ap.mk (Ar.mk r18.1.Ac.clock r18.1.Ac.next r52.2.1) r52.2.2.1 r52.2.2.2 r18.1.An) 1).bind fun r75=>
if (decide (r75<0))=true then
some false
else
if (r75 != r52.1)=true then
some false
else
some true
else none
else none
else none
else none
else none
else none
else none
end Go.Ev
