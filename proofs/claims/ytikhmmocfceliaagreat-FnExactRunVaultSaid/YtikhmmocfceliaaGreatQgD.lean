/- Functions with the answers of the program's, written by a program of ours. -/
import Derived.Test.YtikhmmocfceliaaGreatQvG
set_option linter.all false
set_option maxHeartbeats 4000000
set_option linter.unusedVariables false
set_option maxRecDepth 100000
namespace Go.Ev
structure Aa where
  id:Int
  Bp:Int
  cap:Int
  Cl:Bool
  deriving Inhabited,DecidableEq
def FA (x:Aa):Prop:=Oz x.id∧Oz x.Bp∧Oz x.cap∧jU x.Cl
def Ab (x:Aa):List V:=[.int .i64 x.id,.int .i64 x.Bp,.int .i64 x.cap,.bool x.Cl]
structure As where
  clock:Int
  next:Int
  Af:List Aa
  deriving Inhabited,DecidableEq
def FB (x:As):Prop:=Oz x.clock∧Oz x.next∧(okL FA) x.Af
def Bk (x:As):List V:=[.int .i64 x.clock,.int .i64 x.next,.lst 4 (x.Af.map Ab)]
structure Ag where
  Br:Int
  Jx:Bool
  deriving Inhabited,DecidableEq
def sH (x:Ag):Prop:=Oz x.Br∧jU x.Jx
def Ca (x:Ag):List V:=[.int .i64 x.Br,.bool x.Jx]
structure Ap where
  Ac:As
  Ad:List Ag
  Aj:List Int
  Am:Bool
  deriving Inhabited,DecidableEq
def FC (x:Ap):Prop:=FB x.Ac∧(okL sH) x.Ad∧(okL Oz) x.Aj∧jU x.Am
def Bv (x:Ap):List V:=[.int .i64 x.Ac.clock,.int .i64 x.Ac.next,.lst 4 (x.Ac.Af.map Ab),.lst 2 (x.Ad.map Ca),.lst 1 (x.Aj.map eI),.bool x.Am]
structure Ai where
  kind:Int
  id:Int
  ttl:Int
  Db:Int
  clock:Int
  Bi:List Int
  stop:Int
  deriving Inhabited,DecidableEq
def Gy (x:Ai):Prop:=Oz x.kind∧Oz x.id∧Oz x.ttl∧Oz x.Db∧Oz x.clock∧(okL Oz) x.Bi∧Oz x.stop
def Ao (x:Ai):List V:=[.int .i64 x.kind,.int .i64 x.id,.int .i64 x.ttl,.int .i64 x.Db,.int .i64 x.clock,.lst 1 (x.Bi.map eI),.int .i64 x.stop]
structure Ak where
  code_:Int
  id:Int
  deriving Inhabited,DecidableEq
def HK (x:Ak):Prop:=Oz x.code_∧Oz x.id
def Ax (x:Ak):List V:=[.int .i64 x.code_,.int .i64 x.id]
structure Dd where
  v:Ap
  a:Ai
  Gu:Int
  deriving Inhabited,DecidableEq
def okDrunner (x:Dd):Prop:=FC x.v∧Gy x.a∧Oz x.Gu
def iX (x:Dd):List V:=[.int .i64 x.v.Ac.clock,.int .i64 x.v.Ac.next,.lst 4 (x.v.Ac.Af.map Ab),.lst 2 (x.v.Ad.map Ca),.lst 1 (x.v.Aj.map eI),.bool x.v.Am,.int .i64 x.a.kind,.int .i64 x.a.id,.int .i64 x.a.ttl,.int .i64 x.a.Db,.int .i64 x.a.clock,.lst 1 (x.a.Bi.map eI),.int .i64 x.a.stop,.int .i64 x.Gu]
noncomputable def g107 (a0:Aa) (a1:Aa):Option Bool:=
if (a0.id != a1.id)=true then
some false
else
if (a0.Bp != a1.Bp)=true then
some false
else
if (a0.cap != a1.cap)=true then
some false
else
if (!(a0.Cl==a1.Cl))=true then
some false
else
some true
noncomputable def aF (a0:List Aa) (a1:List Aa) (s:Int):Option ((Int)⊕(Unit⊕Bool)):=
match s with
| p10=>
if (decide (p10<(a0.length:Int)))=true then
(Cr a0 p10).bind fun y21=>
(Cr a1 p10).bind fun y23=>
(g107 y21 y23).bind fun r25=>
if (!r25)=true then
some (.inr (.inr false))
else
some (.inl (IntKind.i64.wrap (p10+1)))
else
some (.inr (.inl ()))
noncomputable def g64 (a0:List Aa) (a1:List Aa):Option Bool:=
if ((a0.length:Int) != (a1.length:Int))=true then
some false
else
(By (aF a0 a1) 0).bind fun r28=>
(match r28 with
| .inl ()=>
some true
| .inr q=>some q)
noncomputable def g21 (a0:As) (a1:As):Option Bool:=
if (a0.clock != a1.clock)=true then
some false
else
if (a0.next != a1.next)=true then
some false
else
(g64 a0.Af a1.Af).bind fun r3=>
if (!r3)=true then
some false
else
some true
noncomputable def aD (a0:List Int) (a1:List Int) (s:Int):Option ((Int)⊕(Unit⊕Bool)):=
match s with
| p8=>
if (decide (p8<(a0.length:Int)))=true then
(Cr a0 p8).bind fun y17=>
(Cr a1 p8).bind fun y19=>
if (y17 != y19)=true then
some (.inr (.inr false))
else
some (.inl (IntKind.i64.wrap (p8+1)))
else
some (.inr (.inl ()))
noncomputable def g36 (a0:List Int) (a1:List Int):Option Bool:=
if ((a0.length:Int) != (a1.length:Int))=true then
some false
else
(By (aD a0 a1) 0).bind fun r22=>
(match r22 with
| .inl ()=>
some true
| .inr q=>some q)
noncomputable def DG (a0:Ag) (a1:Ag):Option Bool:=
if (a0.Br != a1.Br)=true then
some false
else
if (!(a0.Jx==a1.Jx))=true then
some false
else
some true
noncomputable def aK (a0:List Ag) (a1:List Ag) (s:Int):Option ((Int)⊕(Unit⊕Bool)):=
match s with
| p10=>
if (decide (p10<(a0.length:Int)))=true then
(Cr a0 p10).bind fun y21=>
(Cr a1 p10).bind fun y23=>
(DG y21 y23).bind fun r25=>
if (!r25)=true then
some (.inr (.inr false))
else
some (.inl (IntKind.i64.wrap (p10+1)))
else
some (.inr (.inl ()))
noncomputable def g99 (a0:List Ag) (a1:List Ag):Option Bool:=
if ((a0.length:Int) != (a1.length:Int))=true then
some false
else
(By (aK a0 a1) 0).bind fun r28=>
(match r28 with
| .inl ()=>
some true
| .inr q=>some q)
noncomputable def g49 (a0:Ap) (a1:Ap):Option Bool:=
(g21 a0.Ac a1.Ac).bind fun r1=>
if (!r1)=true then
some false
else
(g99 a0.Ad a1.Ad).bind fun r4=>
if (!r4)=true then
some false
else
(g36 a0.Aj a1.Aj).bind fun r7=>
if (!r7)=true then
some false
else
if (!(a0.Am==a1.Am))=true then
some false
else
some true
noncomputable def g56 (a0:Int) (a1:Int) (a2:Int):Option Bool:=
some (bif (decide (a0≥a1)) then (decide (a0≤a2)) else false)
noncomputable def Tr (a0:Ai) (s:Int):Option ((Int)⊕(Unit⊕Bool)):=
match s with
| p10=>
if (decide (p10<(a0.Bi.length:Int)))=true then
(Cr a0.Bi p10).bind fun y19=>
(g56 y19 0 2).bind fun r21=>
if (!r21)=true then
some (.inr (.inr false))
else
some (.inl (IntKind.i64.wrap (p10+1)))
else
some (.inr (.inl ()))
noncomputable def rG (a0:Ai):Option Bool:=
(if ((decide ((a0.Bi.length:Int)>4096))==false)=true then g56 a0.stop 0 2 else some default).bind fun r1=>
if (bif (decide ((a0.Bi.length:Int)>4096)) then true else (!r1))=true then
some false
else
(By (Tr a0) 0).bind fun r24=>
(match r24 with
| .inl ()=>
some true
| .inr q=>some q)
noncomputable def fZ (a0:As) (a1:Int) (s:Int):Option ((Int)⊕(Unit⊕Int)):=
match s with
| p5=>
if (decide (p5<(a0.Af.length:Int)))=true then
(Cr a0.Af p5).bind fun y12=>
if (y12.id==a1)=true then
some (.inr (.inr p5))
else
some (.inl (IntKind.i64.wrap (p5+1)))
else
some (.inr (.inl ()))
noncomputable def g92 (a0:As) (a1:Int):Option Int:=
(By (fZ a0 a1) 0).bind fun r15=>
(match r15 with
| .inl ()=>
some (-1)
| .inr q=>some q)
noncomputable def jA (a0:As):Option As:=
if (([]:List Aa).length+a0.Af.length)*32≤140737488355328 then
some (As.mk a0.clock a0.next (([]:List Aa)++a0.Af))
else none
noncomputable def g74 (a0:As) (a1:Int):Option (As×Int):=
(g92 a0 a1).bind fun r1=>
if (decide (r1<0))=true then
some (a0,5)
else
(jA a0).bind fun r4=>
(Cr r4.Af r1).bind fun y6=>
(r4.Af[r1.toNat]?).bind fun y8=>
some ((As.mk r4.clock r4.next (r4.Af.set r1.toNat (Aa.mk y8.id y8.Bp y8.cap true))),0)
noncomputable def g53 (a0:Int) (a1:Int):Option Int:=
if (decide (a0>(IntKind.i64.wrap (9223372036854775807-a1))))=true then
some 9223372036854775807
else
some (IntKind.i64.wrap (a0+a1))
noncomputable def g79 (a0:As) (a1:Int) (a2:Int):Option (As×Int):=
(g92 a0 a1).bind fun r1=>
if (decide (a2<1))=true then
some (a0,4)
else
if (decide (r1<0))=true then
some (a0,5)
else
(Cr a0.Af r1).bind fun y5=>
if y5.Cl=true then
some (a0,13)
else
(jA a0).bind fun r8=>
(Cr r8.Af r1).bind fun y10=>
(r8.Af[r1.toNat]?).bind fun y12=>
(g53 a0.clock a2).bind fun r14=>
some ((As.mk r8.clock r8.next (r8.Af.set r1.toNat (Aa.mk y12.id (if r14<y12.cap then r14 else y12.cap) y12.cap y12.Cl))),0)
noncomputable def Wg (p103:Int) (p132:Int):Option ((Int×Int)⊕(Int)):=
some (.inl (p132,(IntKind.i64.wrap (p103+1))))
noncomputable def aG (a0:As) (a1:Int) (p45:List Aa) (s:Int×Int):Option ((Int×Int)⊕(Int)):=
match s with
| (p102,p103)=>
if (decide (p103<(p45.length:Int)))=true then
(Cr p45 p103).bind fun y134=>
(p45[p103.toNat]?).bind fun y136=>
(if (((bif (!y136.Cl) then (decide (y136.Bp≤(if a1>a0.clock then a1 else a0.clock))) else false)==true)&&((decide (p102<0))==false))=true then Cr p45 p102 else some default).bind fun y138=>
(if (((bif (!y136.Cl) then (decide (y136.Bp≤(if a1>a0.clock then a1 else a0.clock))) else false)==true)&&((decide (p102<0))==false))=true then p45[p102.toNat]? else some default).bind fun y140=>
Cd ((bif (bif (!y136.Cl) then (decide (y136.Bp≤(if a1>a0.clock then a1 else a0.clock))) else false) then (bif (decide (p102<0)) then true else (decide (y136.Bp<y140.Bp))) else false)) fun v142=>
if v142=true then
Wg p103 p103
else
Wg p103 p102
else
some (.inr p102)
noncomputable def fY (a0:As) (a1:Int) (r1:As) (s:(List Int)×(List Aa)):Option (((List Int)×(List Aa))⊕(As×(List Int))):=
match s with
| (p44,p45)=>
(By (aG a0 a1 p45) ((-1),0)).bind fun r145=>
(match r145 with
| p119=>
if (decide (p119<0))=true then
some (.inr ((As.mk (if a1>a0.clock then a1 else a0.clock) r1.next p45),p44))
else
(Cr p45 p119).bind fun y148=>
(p45[p119.toNat]?).bind fun y150=>
(Cr (p45.set p119.toNat (Aa.mk y150.id y150.Bp y150.cap true)) p119).bind fun y152=>
((p45.set p119.toNat (Aa.mk y150.id y150.Bp y150.cap true))[p119.toNat]?).bind fun y154=>
if (p44.length+([y154.id]:List Int).length)*8≤140737488355328 then
some (.inl ((p44++([y154.id]:List Int)),(p45.set p119.toNat (Aa.mk y150.id y150.Bp y150.cap true))))
else none)
noncomputable def g81 (a0:As) (a1:Int):Option (As×(List Int)):=
(jA a0).bind fun r1=>
(By (fY a0 a1 r1) (([]:List Int),r1.Af)).bind fun r157=>
(match r157 with
| q=>some q)
noncomputable def Zz (a0:Ap):Option Ap:=
(jA a0.Ac).bind fun r1=>
if (([]:List Ag).length+a0.Ad.length)*16≤140737488355328 then
if (([]:List Int).length+a0.Aj.length)*8≤140737488355328 then
some (Ap.mk r1 (([]:List Ag)++a0.Ad) (([]:List Int)++a0.Aj) a0.Am)
else none
else none
noncomputable def g70 (a0:As) (a1:Int) (a2:Int):Option (As×Int×Int):=
if (bif (decide (a1<1)) then true else (decide (a2<a1)))=true then
some (a0,0,4)
else
if (a0.clock==9223372036854775807)=true then
some (a0,0,11)
else
Cd ((bif ((a0.Af.length:Int)==40) then true else (a0.next==1000000))) fun v3=>
if v3=true then
some (a0,0,9)
else
(jA a0).bind fun r6=>
(g53 a0.clock a1).bind fun r8=>
(g53 a0.clock a2).bind fun r10=>
if (r6.Af.length+([(Aa.mk a0.next r8 r10 false)]:List Aa).length)*32≤140737488355328 then
some ((As.mk r6.clock (IntKind.i64.wrap (r6.next+1)) (r6.Af++([(Aa.mk a0.next r8 r10 false)]:List Aa))),a0.next,0)
else none
noncomputable def Wh (a0:List Int) (a1:Int) (s:(List Int)×Int):Option (((List Int)×Int)⊕((List Int))):=
match s with
| (p10,p11)=>
(if ((decide (p11<(a0.length:Int)))==true)=true then Cr a0 p11 else some default).bind fun y23=>
Cd ((bif (decide (p11<(a0.length:Int))) then (decide (y23<a1)) else false)) fun v25=>
if v25=true then
(Cr a0 p11).bind fun y28=>
if (p10.length+([y28]:List Int).length)*8≤140737488355328 then
some (.inl ((p10++([y28]:List Int)),(IntKind.i64.wrap (p11+1))))
else none
else
some (.inr p10)
noncomputable def aJ (a0:List Int) (a3:Int) (p35:List Int) (p41:Int):Option ((List Int)×Int):=
(cW a0 p41 (a0.length:Int)).bind fun s42=>
if (p35.length+s42.length)*8≤140737488355328 then
if (a3==2)=true then
some (p35++s42,15)
else
some (p35++s42,0)
else none
noncomputable def aI (a0:List Int) (a1:Int) (a3:Int) (p22:List Int) (p35:List Int):Option ((List Int)×Int):=
(if ((decide ((p22.length:Int)<(a0.length:Int)))==true)=true then Cr a0 (p22.length:Int) else some default).bind fun y36=>
Cd ((bif (decide ((p22.length:Int)<(a0.length:Int))) then (y36==a1) else false)) fun v38=>
if v38=true then
aJ a0 a3 p35 (IntKind.i64.wrap ((p22.length:Int)+1))
else
aJ a0 a3 p35 (p22.length:Int)
noncomputable def g86 (a0:List Int) (a1:Int) (a2:Bool) (a3:Int):Option ((List Int)×Int):=
if (a3==1)=true then
some (a0,13)
else
(By (Wh a0 a1) (([]:List Int),0)).bind fun r31=>
(match r31 with
| p22=>
if a2=true then
if (p22.length+([a1]:List Int).length)*8≤140737488355328 then
aI a0 a1 a3 p22 (p22++([a1]:List Int))
else none
else
aI a0 a1 a3 p22 p22)
noncomputable def Qy  (s:Int×(List Ag)):Option ((Int×(List Ag))⊕((List Ag))):=
match s with
| (p8,p9)=>
if (decide (p8<(p9.length:Int)))=true then
(Cr p9 p8).bind fun y19=>
(p9[p8.toNat]?).bind fun y21=>
some (.inl ((IntKind.i64.wrap (p8+1)),(p9.set p8.toNat (Ag.mk y21.Br true))))
else
some (.inr p9)
noncomputable def fM (a0:Ap):Option Ap:=
(Zz a0).bind fun r1=>
(By (Qy) (0,r1.Ad)).bind fun r23=>
(match r23 with
| p17=>
some (Ap.mk r1.Ac p17 r1.Aj true))
noncomputable def mA (a0:Ai) (a1:Int):Option Int:=
if (decide (a1<(a0.Bi.length:Int)))=true then
(Cr a0.Bi a1).bind fun y2=>
some y2
else
some 0
noncomputable def Jo (a0:Ap) (a1:Ai) (r1:As×Int×Int) (p4:Int):Option (Ap×Ak):=
if (p4 != 0)=true then
some (a0,(Ak.mk p4 0))
else
(Zz a0).bind fun r6=>
if (r6.Ad.length+([(Ag.mk r1.2.1 false)]:List Ag).length)*16≤140737488355328 then
if (a1.stop==1)=true then
(fM (Ap.mk (As.mk r6.Ac.clock r1.1.next r6.Ac.Af) (r6.Ad++([(Ag.mk r1.2.1 false)]:List Ag)) r6.Aj r6.Am)).bind fun r10=>
some (r10,(Ak.mk 15 0))
else
(mA a1 0).bind fun r12=>
(g86 r6.Aj r1.2.1 true r12).bind fun r14=>
if (a1.stop==2)=true then
(fM (Ap.mk (As.mk r6.Ac.clock r1.1.next r6.Ac.Af) (r6.Ad++([(Ag.mk r1.2.1 false)]:List Ag)) r14.1 r6.Am)).bind fun r17=>
some (r17,(Ak.mk 15 0))
else
if (r14.2 != 0)=true then
(Cr (r6.Ad++([(Ag.mk r1.2.1 false)]:List Ag)) (IntKind.i64.wrap (((r6.Ad++([(Ag.mk r1.2.1 false)]:List Ag)).length:Int)-1))).bind fun y20=>
((r6.Ad++([(Ag.mk r1.2.1 false)]:List Ag))[(IntKind.i64.wrap (((r6.Ad++([(Ag.mk r1.2.1 false)]:List Ag)).length:Int)-1)).toNat]?).bind fun y22=>
some ((Ap.mk (As.mk r6.Ac.clock r1.1.next r6.Ac.Af) ((r6.Ad++([(Ag.mk r1.2.1 false)]:List Ag)).set ((IntKind.i64.wrap (((r6.Ad++([(Ag.mk r1.2.1 false)]:List Ag)).length:Int)-1)).toNat) (Ag.mk y22.Br true)) r14.1 r6.Am),(Ak.mk r14.2 0))
else
(cW (r6.Ad++([(Ag.mk r1.2.1 false)]:List Ag)) 0 (IntKind.i64.wrap (((r6.Ad++([(Ag.mk r1.2.1 false)]:List Ag)).length:Int)-1))).bind fun s24=>
some ((Ap.mk r1.1 s24 r14.1 r6.Am),(Ak.mk 0 r1.2.1))
else none
noncomputable def rK (a0:Ap) (a1:Ai):Option (Ap×Ak):=
(g70 a0.Ac a1.ttl a1.Db).bind fun r1=>
if (bif (r1.2.2==0) then ((a0.Ad.length:Int)==40) else false)=true then
Jo a0 a1 r1 9
else
Jo a0 a1 r1 r1.2.2
noncomputable def g76 (a0:As) (a1:Int):Option (As×Int):=
(g92 a0 a1).bind fun r1=>
if (decide (r1<0))=true then
some (a0,5)
else
(Cr a0.Af r1).bind fun y4=>
if (!y4.Cl)=true then
some (a0,13)
else
(cW a0.Af 0 r1).bind fun s7=>
(cW a0.Af (IntKind.i64.wrap (r1+1)) (a0.Af.length:Int)).bind fun s9=>
if (([]:List Aa).length+s7.length)*32≤140737488355328 then
if ((([]:List Aa)++s7).length+s9.length)*32≤140737488355328 then
some ((As.mk a0.clock a0.next ((([]:List Aa)++s7)++s9)),0)
else none
else none
noncomputable def Ye (p10:Int) (p29:List Ag):Option (((List Ag)×Int)⊕((List Ag))):=
some (.inl (p29,(IntKind.i64.wrap (p10+1))))
noncomputable def Rc (a0:List Ag) (a1:Int) (s:(List Ag)×Int):Option (((List Ag)×Int)⊕((List Ag))):=
match s with
| (p9,p10)=>
if (decide (p10<(a0.length:Int)))=true then
(Cr a0 p10).bind fun y31=>
if (y31.Br != a1)=true then
(Cr a0 p10).bind fun y34=>
if (p9.length+([y34]:List Ag).length)*16≤140737488355328 then
Ye p10 (p9++([y34]:List Ag))
else none
else
Ye p10 p9
else
some (.inr p9)
noncomputable def g146 (a0:List Ag) (a1:Int):Option (List Ag):=
(By (Rc a0 a1) (([]:List Ag),0)).bind fun r37=>
(match r37 with
| p21=>
some p21)
noncomputable def Tu (p28:Int) (p87:Int) (p88:Int) (p89:Int) (p90:List Aa) (p91:List Int):Option ((Int×Int×Int×Int×(List Aa)×(List Int))⊕((Int×Int×Int×(List Aa)×(List Int))⊕Ap)):=
some (.inl (p87,(IntKind.i64.wrap (p28+1)),p88,p89,p90,p91))
noncomputable def Qz (a1:Ai) (r1:Ap) (p27:Int) (p28:Int) (r100:(List Int)×Int) (p105:Int) (p106:Int) (p107:List Aa):Option ((Int×Int×Int×Int×(List Aa)×(List Int))⊕((Int×Int×Int×(List Aa)×(List Int))⊕Ap)):=
if (a1.stop==2)=true then
(fM (Ap.mk (As.mk p105 p106 p107) r1.Ad r100.1 r1.Am)).bind fun r109=>
some (.inr (.inr r109))
else
Tu p28 (IntKind.i64.wrap (p27+1)) p105 p106 p107 r100.1
noncomputable def Mc (a0:Ap) (a1:Ai) (r1:Ap) (s:Int×Int×Int×Int×(List Aa)×(List Int)):Option ((Int×Int×Int×Int×(List Aa)×(List Int))⊕((Int×Int×Int×(List Aa)×(List Int))⊕Ap)):=
match s with
| (p27,p28,p29,p30,p31,p32)=>
if (decide (p28<(a0.Ac.Af.length:Int)))=true then
(Cr a0.Ac.Af p28).bind fun y93=>
(Cr a0.Ac.Af p28).bind fun y95=>
if (!y95.Cl)=true then
Tu p28 p27 p29 p30 p31 p32
else
(mA a1 p27).bind fun r98=>
(g86 p32 y93.id false r98).bind fun r100=>
if (r100.2==0)=true then
(g76 (As.mk p29 p30 p31) y93.id).bind fun r113=>
Qz a1 r1 p27 p28 r100 r113.1.clock r113.1.next r113.1.Af
else
Qz a1 r1 p27 p28 r100 p29 p30 p31
else
some (.inr (.inl (p27,p29,p30,p31,p32)))
noncomputable def Tv (p140:Int) (p190:Int) (p191:List Ag) (p192:List Int):Option ((Int×Int×(List Ag)×(List Int))⊕(((List Ag)×(List Int))⊕Ap)):=
some (.inl (p190,(IntKind.i64.wrap (p140+1)),p191,p192))
noncomputable def Ra (a1:Ai) (r1:Ap) (p64:Int) (p65:Int) (p66:List Aa) (p139:Int) (p140:Int) (r201:(List Int)×Int) (p208:List Ag):Option ((Int×Int×(List Ag)×(List Int))⊕(((List Ag)×(List Int))⊕Ap)):=
if (a1.stop==2)=true then
(fM (Ap.mk (As.mk p64 p65 p66) p208 r201.1 r1.Am)).bind fun r210=>
some (.inr (.inr r210))
else
Tv p140 (IntKind.i64.wrap (p139+1)) p208 r201.1
noncomputable def Jp (a0:Ap) (a1:Ai) (r1:Ap) (p64:Int) (p65:Int) (p66:List Aa) (s:Int×Int×(List Ag)×(List Int)):Option ((Int×Int×(List Ag)×(List Int))⊕(((List Ag)×(List Int))⊕Ap)):=
match s with
| (p139,p140,p141,p142)=>
if (decide (p140<(a0.Ad.length:Int)))=true then
(Cr a0.Ad p140).bind fun y194=>
if (!y194.Jx)=true then
Tv p140 p139 p141 p142
else
(Cr a0.Ad p140).bind fun y197=>
(mA a1 p139).bind fun r199=>
(g86 p142 y197.Br false r199).bind fun r201=>
if (r201.2==0)=true then
(Cr a0.Ad p140).bind fun y214=>
(g146 p141 y214.Br).bind fun r216=>
Ra a1 r1 p64 p65 p66 p139 p140 r201 r216
else
Ra a1 r1 p64 p65 p66 p139 p140 r201 p141
else
some (.inr (.inl (p141,p142)))
noncomputable def lX (a0:Ap) (a1:Ai):Option Ap:=
(Zz a0).bind fun r1=>
(By (Mc a0 a1 r1) (0,0,r1.Ac.clock,r1.Ac.next,r1.Ac.Af,r1.Aj)).bind fun r115=>
(match r115 with
| .inl (p63,p64,p65,p66,p67)=>
(By (Jp a0 a1 r1 p64 p65 p66) (p63,0,r1.Ad,p67)).bind fun r218=>
(match r218 with
| .inl (p169,p170)=>
some (Ap.mk (As.mk p64 p65 p66) p169 p170 r1.Am)
| .inr q=>some q)
| .inr q=>some q)
noncomputable def Gn (a0:Ap) (p27:Int) (p28:Int) (p29:Int) (p30:List Aa) (p31:List Ag) (p32:List Int) (p33:Bool):Option (Ap×Ak):=
if (p27 != 0)=true then
some (a0,(Ak.mk p27 0))
else
some ((Ap.mk (As.mk p28 p29 p30) p31 p32 p33),(Ak.mk 0 0))
noncomputable def Xt (a0:Ap) (a1:Ai):Option (Ap×Ak):=
(g56 a1.kind 1 6).bind fun r1=>
if (!r1)=true then
some (a0,(Ak.mk 16 0))
else
if (bif a0.Am then (a1.kind != 6) else false)=true then
some (a0,(Ak.mk 14 0))
else
(Zz a0).bind fun r5=>
if (a1.kind==1)=true then
(rK a0 a1).bind fun r37=>
some (r37.1,r37.2)
else
if (a1.kind==2)=true then
(g79 a0.Ac a1.id a1.ttl).bind fun r40=>
Gn a0 r40.2 r40.1.clock r40.1.next r40.1.Af r5.Ad r5.Aj r5.Am
else
if (a1.kind==3)=true then
(g74 a0.Ac a1.id).bind fun r43=>
Gn a0 r43.2 r43.1.clock r43.1.next r43.1.Af r5.Ad r5.Aj r5.Am
else
if (a1.kind==4)=true then
(g81 a0.Ac a1.clock).bind fun r46=>
if (a1.stop==1)=true then
(fM (Ap.mk r46.1 r5.Ad r5.Aj r5.Am)).bind fun r49=>
some (r49,(Ak.mk 15 0))
else
(lX (Ap.mk r46.1 r5.Ad r5.Aj r5.Am) a1).bind fun r51=>
if (bif r51.Am then (!r5.Am) else false)=true then
some (r51,(Ak.mk 15 0))
else
Gn a0 0 r51.Ac.clock r51.Ac.next r51.Ac.Af r51.Ad r51.Aj r51.Am
else
if (a1.kind==5)=true then
Gn a0 0 r5.Ac.clock r5.Ac.next r5.Ac.Af r5.Ad r5.Aj true
else
if (a1.kind==6)=true then
Gn a0 0 r5.Ac.clock r5.Ac.next r5.Ac.Af r5.Ad r5.Aj false
else
Gn a0 0 r5.Ac.clock r5.Ac.next r5.Ac.Af r5.Ad r5.Aj r5.Am
noncomputable def Pr (a0:List Ai) (s:(List Ak)×Int×Int×Int×(List Aa)×(List Ag)×(List Int)×Bool):Option (((List Ak)×Int×Int×Int×(List Aa)×(List Ag)×(List Int)×Bool)⊕(((List Ak)×Int×Int×(List Aa)×(List Ag)×(List Int)×Bool)⊕(Ap×(List Ak)×Int))):=
match s with
| (p15,p16,p17,p18,p19,p20,p21,p22)=>
if (decide (p16<(a0.length:Int)))=true then
(Cr a0 p16).bind fun y51=>
(rG y51).bind fun r53=>
if (!r53)=true then
some (.inr (.inr ((Ap.mk (As.mk 0 0 ([]:List Aa)) ([]:List Ag) ([]:List Int) false),([]:List Ak),1)))
else
(Cr a0 p16).bind fun y56=>
(Xt (Ap.mk (As.mk p17 p18 p19) p20 p21 p22) y56).bind fun r58=>
if (p15.length+([r58.2]:List Ak).length)*16≤140737488355328 then
some (.inl ((p15++([r58.2]:List Ak)),(IntKind.i64.wrap (p16+1)),r58.1.Ac.clock,r58.1.Ac.next,r58.1.Ac.Af,r58.1.Ad,r58.1.Aj,r58.1.Am))
else none
else
some (.inr (.inl (p15,p17,p18,p19,p20,p21,p22)))
noncomputable def g50 (a0:List Ai):Option (Ap×(List Ak)×Int):=
if (decide ((a0.length:Int)>4096))=true then
some ((Ap.mk (As.mk 0 0 ([]:List Aa)) ([]:List Ag) ([]:List Int) false),([]:List Ak),2)
else
if (decide ((a0.length:Int)>120))=true then
some ((Ap.mk (As.mk 0 0 ([]:List Aa)) ([]:List Ag) ([]:List Int) false),([]:List Ak),6)
else
(By (Pr a0) (([]:List Ak),0,0,1,([]:List Aa),([]:List Ag),([]:List Int),false)).bind fun r62=>
(match r62 with
| .inl (p43,p44,p45,p46,p47,p48,p49)=>
(Zz (Ap.mk (As.mk p44 p45 p46) p47 p48 p49)).bind fun r64=>
some (r64,p43,0)
| .inr q=>some q)
noncomputable def We  (s:(List Aa)×Int×Int):Option (((List Aa)×Int×Int)⊕((List Aa)×Int)):=
match s with
| (p26,p27,p28)=>
if (decide (p28<(p26.length:Int)))=true then
(Cr p26 p28).bind fun y60=>
(p26[p28.toNat]?).bind fun y62=>
(Cr (p26.set p28.toNat (Aa.mk p27 y62.Bp y62.cap y62.Cl)) p28).bind fun y64=>
((p26.set p28.toNat (Aa.mk p27 y62.Bp y62.cap y62.Cl))[p28.toNat]?).bind fun y66=>
Cd ((p26.set p28.toNat (Aa.mk p27 y62.Bp y62.cap y62.Cl)).set p28.toNat (Aa.mk y66.id (IntKind.i64.wrap (p27+1)) y66.cap y66.Cl)) fun v68=>
(Cr v68 p28).bind fun y70=>
(v68[p28.toNat]?).bind fun y72=>
Cd (v68.set p28.toNat (Aa.mk y72.id y72.Bp (IntKind.i64.wrap ((IntKind.i64.wrap (p27+1))+1)) y72.Cl)) fun v74=>
Cd (IntKind.i64.wrap ((IntKind.i64.wrap ((IntKind.i64.wrap (p27+1))+1))+1)) fun v76=>
(Cr v74 p28).bind fun y78=>
(v74[p28.toNat]?).bind fun y80=>
Cd (v74.set p28.toNat (Aa.mk y80.id y80.Bp y80.cap (((v76).tmod 3)==0))) fun v82=>
some (.inl (v82,(IntKind.i64.wrap (v76+1)),(IntKind.i64.wrap (p28+1))))
else
some (.inr (p26,p27))
noncomputable def g72 (a0:List Aa) (a1:Int):Option (Int×(List Aa)):=
(By (We) (a0,a1,0)).bind fun r84=>
(match r84 with
| (p57,p58)=>
some (p58,p57))
noncomputable def g26 (a0:As) (a1:Int):Option (Int×(List Aa)):=
(g72 a0.Af a1).bind fun r1=>
if r1.2.length=a0.Af.length then
some (r1.1,r1.2)
else none
noncomputable def Pq  (s:(List Int)×Int×Int):Option (((List Int)×Int×Int)⊕((List Int)×Int)):=
match s with
| (p6,p7,p8)=>
if (decide (p8<(p6.length:Int)))=true then
(Cr p6 p8).bind fun y20=>
(p6[p8.toNat]?).bind fun y22=>
some (.inl ((p6.set p8.toNat p7),(IntKind.i64.wrap (p7+1)),(IntKind.i64.wrap (p8+1))))
else
some (.inr (p6,p7))
noncomputable def g37 (a0:List Int) (a1:Int):Option (Int×(List Int)):=
(By (Pq) (a0,a1,0)).bind fun r24=>
(match r24 with
| (p17,p18)=>
some (p18,p17))
noncomputable def Uh  (s:(List Ag)×Int×Int):Option (((List Ag)×Int×Int)⊕((List Ag)×Int)):=
match s with
| (p12,p13,p14)=>
if (decide (p14<(p12.length:Int)))=true then
(Cr p12 p14).bind fun y32=>
(p12[p14.toNat]?).bind fun y34=>
(Cr (p12.set p14.toNat (Ag.mk p13 y34.Jx)) p14).bind fun y36=>
((p12.set p14.toNat (Ag.mk p13 y34.Jx))[p14.toNat]?).bind fun y38=>
Cd ((p12.set p14.toNat (Ag.mk p13 y34.Jx)).set p14.toNat (Ag.mk y38.Br ((((IntKind.i64.wrap (p13+1))).tmod 3)==0))) fun v40=>
some (.inl (v40,(IntKind.i64.wrap ((IntKind.i64.wrap (p13+1))+1)),(IntKind.i64.wrap (p14+1))))
else
some (.inr (p12,p13))
noncomputable def g315 (a0:List Ag) (a1:Int):Option (Int×(List Ag)):=
(By (Uh) (a0,a1,0)).bind fun r42=>
(match r42 with
| (p29,p30)=>
some (p30,p29))
noncomputable def mN (a0:Ap) (a1:Int):Option (Int×(List Aa)×(List Ag)×(List Int)):=
(g26 a0.Ac a1).bind fun r1=>
if r1.2.length=a0.Ac.Af.length then
(g315 a0.Ad r1.1).bind fun r4=>
if r4.2.length=a0.Ad.length then
(g37 a0.Aj r4.1).bind fun r7=>
if r7.2.length=a0.Aj.length then
some (r7.1,r1.2,r4.2,r7.2)
else none
else none
else none
noncomputable def Wf (a0:List Aa) (s:Int×Int):Option ((Int×Int)⊕(Int⊕Int)):=
match s with
| (p16,p17)=>
if (decide (p17<(a0.length:Int)))=true then
(Cr a0 p17).bind fun y37=>
if (y37.id != p16)=true then
some (.inr (.inr (-1)))
else
(Cr a0 p17).bind fun y40=>
if (y40.Bp != (IntKind.i64.wrap (p16+1)))=true then
some (.inr (.inr (-1)))
else
(Cr a0 p17).bind fun y43=>
if (y43.cap != (IntKind.i64.wrap ((IntKind.i64.wrap (p16+1))+1)))=true then
some (.inr (.inr (-1)))
else
Cd (IntKind.i64.wrap ((IntKind.i64.wrap ((IntKind.i64.wrap (p16+1))+1))+1)) fun v46=>
(Cr a0 p17).bind fun y48=>
if (!(y48.Cl==(((v46).tmod 3)==0)))=true then
some (.inr (.inr (-1)))
else
some (.inl ((IntKind.i64.wrap (v46+1)),(IntKind.i64.wrap (p17+1))))
else
some (.inr (.inl p16))
noncomputable def g73 (a0:List Aa) (a1:Int):Option Int:=
(By (Wf a0) (a1,0)).bind fun r51=>
(match r51 with
| .inl p35=>
some p35
| .inr q=>some q)
noncomputable def g27 (a0:As) (a1:Int):Option Int:=
(g73 a0.Af a1).bind fun r1=>
if (decide (r1<0))=true then
some (-1)
else
some r1
noncomputable def Wc (a0:List Int) (s:Int×Int):Option ((Int×Int)⊕(Int⊕Int)):=
match s with
| (p5,p6)=>
if (decide (p6<(a0.length:Int)))=true then
(Cr a0 p6).bind fun y15=>
if (y15 != p5)=true then
some (.inr (.inr (-1)))
else
some (.inl ((IntKind.i64.wrap (p5+1)),(IntKind.i64.wrap (p6+1))))
else
some (.inr (.inl p5))
noncomputable def g38 (a0:List Int) (a1:Int):Option Int:=
(By (Wc a0) (a1,0)).bind fun r18=>
(match r18 with
| .inl p13=>
some p13
| .inr q=>some q)
noncomputable def Rd (a0:List Ag) (s:Int×Int):Option ((Int×Int)⊕(Int⊕Int)):=
match s with
| (p8,p9)=>
if (decide (p9<(a0.length:Int)))=true then
(Cr a0 p9).bind fun y21=>
if (y21.Br != p8)=true then
some (.inr (.inr (-1)))
else
(Cr a0 p9).bind fun y24=>
if (!(y24.Jx==((((IntKind.i64.wrap (p8+1))).tmod 3)==0)))=true then
some (.inr (.inr (-1)))
else
some (.inl ((IntKind.i64.wrap ((IntKind.i64.wrap (p8+1))+1)),(IntKind.i64.wrap (p9+1))))
else
some (.inr (.inl p8))
noncomputable def g324 (a0:List Ag) (a1:Int):Option Int:=
(By (Rd a0) (a1,0)).bind fun r27=>
(match r27 with
| .inl p19=>
some p19
| .inr q=>some q)
noncomputable def DM (a0:Ap) (a1:Int):Option Int:=
(g27 a0.Ac a1).bind fun r1=>
if (decide (r1<0))=true then
some (-1)
else
(g324 a0.Ad r1).bind fun r4=>
if (decide (r4<0))=true then
some (-1)
else
(g38 a0.Aj r4).bind fun r7=>
if (decide (r7<0))=true then
some (-1)
else
some r7
noncomputable def g455 (a0:List Ai):Option Bool:=
some (decide ((a0.length:Int)≤4096))
noncomputable def pD (a0:List Ai) (is1:Ai→Option Bool) (s:Int):Option ((Int)⊕(Unit⊕Int)):=
match s with
| p7=>
if (decide (p7<(a0.length:Int)))=true then
(Cr a0 p7).bind fun y16=>
(is1 y16).bind fun r18=>
if r18=true then
some (.inr (.inr p7))
else
some (.inl (IntKind.i64.wrap (p7+1)))
else
some (.inr (.inl ()))
noncomputable def g468 (a0:List Ai) (is1:Ai→Option Bool):Option Int:=
(By (pD a0 is1) 0).bind fun r21=>
(match r21 with
| .inl ()=>
some (-1)
| .inr q=>some q)
noncomputable def g461 (a0:List Ai) (is1:Ai→Option Bool):Option Bool:=
(g468 a0 is1).bind fun r1=>
some (decide (r1≥0))
noncomputable def g462 (a0:Ai) (is1:Ai→Option Bool):Option Bool:=
(is1 a0).bind fun r1=>
some (!r1)
noncomputable def g456 (a0:List Ai) (is1:Ai→Option Bool):Option Bool:=
(g461 a0 (fun z462_0=>g462 z462_0 is1)).bind fun r1=>
some (!r1)
noncomputable def g63 (a0:Int) (a1:Int) (a2:Int):Option Bool:=
some (bif (decide (a1≤a0)) then (decide (a0≤a2)) else false)
noncomputable def g87 (a0:List Int):Option Bool:=
some (decide ((a0.length:Int)≤4096))
noncomputable def g88 (a0:Int):Option Bool:=
(g63 a0 0 2).bind fun r1=>
some r1
noncomputable def oY (a0:List Int) (is1:Int→Option Bool) (s:Int):Option ((Int)⊕(Unit⊕Int)):=
match s with
| p7=>
if (decide (p7<(a0.length:Int)))=true then
(Cr a0 p7).bind fun y16=>
(is1 y16).bind fun r18=>
if r18=true then
some (.inr (.inr p7))
else
some (.inl (IntKind.i64.wrap (p7+1)))
else
some (.inr (.inl ()))
noncomputable def g127 (a0:List Int) (is1:Int→Option Bool):Option Int:=
(By (oY a0 is1) 0).bind fun r21=>
(match r21 with
| .inl ()=>
some (-1)
| .inr q=>some q)
noncomputable def g129 (a0:List Int) (is1:Int→Option Bool):Option Bool:=
(g127 a0 is1).bind fun r1=>
some (decide (r1≥0))
noncomputable def g130 (a0:Int) (is1:Int→Option Bool):Option Bool:=
(is1 a0).bind fun r1=>
some (!r1)
noncomputable def g97 (a0:List Int) (is1:Int→Option Bool):Option Bool:=
(g129 a0 (fun z130_0=>g130 z130_0 is1)).bind fun r1=>
some (!r1)
noncomputable def rR (a0:Ai):Option Bool:=
(g87 a0.Bi).bind fun r1=>
(if (r1==true)=true then g97 a0.Bi (fun z88_0=>g88 z88_0) else some default).bind fun r3=>
(if ((bif r1 then r3 else false)==true)=true then g63 a0.stop 0 2 else some default).bind fun r5=>
some (bif (bif r1 then r3 else false) then r5 else false)
noncomputable def g458  : Option Ap:=
some (Ap.mk (As.mk 0 1 ([]:List Aa)) ([]:List Ag) ([]:List Int) false)
noncomputable def Yc (a0:List Aa) (a1:Int) (is2:Aa→Int→Option Int) (s:Int×Int):Option ((Int×Int)⊕(Int)):=
match s with
| (p9,p10)=>
if (decide (p9<p10))=true then
Cd (IntKind.i64.wrap (Nu .u64 (IntKind.u64.wrap (IntKind.i64.wrap (p9+p10))) 1)) fun v23=>
(Cr a0 v23).bind fun y25=>
(is2 y25 a1).bind fun r27=>
if (decide (r27<0))=true then
some (.inl ((IntKind.i64.wrap (v23+1)),p10))
else
some (.inl (p9,v23))
else
some (.inr p9)
noncomputable def g113 (a0:List Aa) (a1:Int) (is2:Aa→Int→Option Int):Option (Int×Bool):=
(By (Yc a0 a1 is2) (0,(a0.length:Int))).bind fun r30=>
(match r30 with
| p21=>
(if ((decide (p21<(a0.length:Int)))==true)=true then Cr a0 p21 else some default).bind fun y32=>
(if ((decide (p21<(a0.length:Int)))==true)=true then is2 y32 a1 else some default).bind fun r34=>
some (p21,(bif (decide (p21<(a0.length:Int))) then (r34==0) else false)))
noncomputable def jB (a0:Int):Option Bool:=
some (a0 != a0)
noncomputable def rH (a0:Int) (a1:Int):Option Int:=
(jB a0).bind fun r1=>
(jB a1).bind fun r3=>
if r1=true then
if r3=true then
some 0
else
some (-1)
else
if r3=true then
some 1
else
if (decide (a0<a1))=true then
some (-1)
else
if (decide (a0>a1))=true then
some 1
else
some 0
noncomputable def rI (a0:Aa) (a1:Int):Option Int:=
(rH a0.id a1).bind fun r1=>
some r1
noncomputable def g77 (a0:As) (a1:Int):Option (Int×Bool):=
(g113 a0.Af a1 (fun z114_0 z114_1=>rI z114_0 z114_1)).bind fun r1=>
some (r1.1,r1.2)
def g66 (a0:List Aa):Option (List Aa):=if ([]:List Aa).length+a0.length≤4398046511104 then some a0 else none
noncomputable def fL (a0:As):Option As:=
(g66 a0.Af).bind fun r1=>
some (As.mk a0.clock a0.next r1)
noncomputable def g75 (a0:As) (a1:Int):Option (As×Int):=
(g77 a0 a1).bind fun r1=>
if (!r1.2)=true then
some ((As.mk 0 0 ([]:List Aa)),5)
else
(fL a0).bind fun r4=>
(Cr r4.Af r1.1).bind fun y6=>
(r4.Af[r1.1.toNat]?).bind fun y8=>
some ((As.mk r4.clock r4.next (r4.Af.set r1.1.toNat (Aa.mk y8.id y8.Bp y8.cap true))),0)
noncomputable def g54 (a0:Int) (a1:Int):Option Int:=
if (decide (a0>(IntKind.i64.wrap (9223372036854775807-a1))))=true then
some 9223372036854775807
else
some (IntKind.i64.wrap (a0+a1))
noncomputable def g80 (a0:As) (a1:Int) (a2:Int):Option (As×Int):=
(g77 a0 a1).bind fun r1=>
if (decide (a2<1))=true then
some ((As.mk 0 0 ([]:List Aa)),4)
else
if (!r1.2)=true then
some ((As.mk 0 0 ([]:List Aa)),5)
else
(Cr a0.Af r1.1).bind fun y5=>
if y5.Cl=true then
some ((As.mk 0 0 ([]:List Aa)),13)
else
(fL a0).bind fun r8=>
(Cr r8.Af r1.1).bind fun y10=>
(r8.Af[r1.1.toNat]?).bind fun y12=>
(g54 a0.clock a2).bind fun r14=>
Cd (r8.Af.set r1.1.toNat (Aa.mk y12.id (if y12.cap<r14 then y12.cap else r14) y12.cap y12.Cl)) fun v16=>
some ((As.mk r8.clock r8.next v16),0)
def lW (a0:List Int):Option (List Int):=if ([]:List Int).length+a0.length≤17592186044416 then some a0 else none
def mP (a0:List Ag):Option (List Ag):=if ([]:List Ag).length+a0.length≤8796093022208 then some a0 else none
noncomputable def g463 (a0:Ap):Option Ap:=
(fL a0.Ac).bind fun r1=>
(mP a0.Ad).bind fun r3=>
(lW a0.Aj).bind fun r5=>
some (Ap.mk r1 r3 r5 a0.Am)
noncomputable def cN (a0:Ap) (a1:Int):Option (Ap×Ak):=
some (a0,(Ak.mk a1 0))
noncomputable def g71 (a0:As) (a1:Int) (a2:Int):Option (As×Int×Int):=
if (bif (decide (a1<1)) then true else (decide (a2<a1)))=true then
some ((As.mk 0 0 ([]:List Aa)),0,4)
else
if (a0.clock==9223372036854775807)=true then
some ((As.mk 0 0 ([]:List Aa)),0,11)
else
Cd ((bif ((a0.Af.length:Int)==40) then true else (a0.next==1000000))) fun v3=>
if v3=true then
some ((As.mk 0 0 ([]:List Aa)),0,9)
else
(fL a0).bind fun r6=>
(g54 a0.clock a1).bind fun r8=>
(g54 a0.clock a2).bind fun r10=>
if (r6.Af.length+([(Aa.mk a0.next r8 r10 false)]:List Aa).length)*32≤140737488355328 then
some ((As.mk r6.clock (IntKind.i64.wrap (r6.next+1)) (r6.Af++([(Aa.mk a0.next r8 r10 false)]:List Aa))),a0.next,0)
else none
noncomputable def Ri (a0:Ap) (s:Int×(List Ag)):Option ((Int×(List Ag))⊕((List Ag))):=
match s with
| (p6,p7)=>
if (decide (p6<(a0.Ad.length:Int)))=true then
(Cr p7 p6).bind fun y17=>
(p7[p6.toNat]?).bind fun y19=>
some (.inl ((IntKind.i64.wrap (p6+1)),(p7.set p6.toNat (Ag.mk y19.Br true))))
else
some (.inr p7)
noncomputable def fV (a0:Ap):Option (Ap×Ak):=
(By (Ri a0) (0,a0.Ad)).bind fun r21=>
(match r21 with
| p15=>
some ((Ap.mk a0.Ac p15 a0.Aj true),(Ak.mk 15 0)))
noncomputable def g140 (a0:Int) (a1:Int):Option Bool:=
(jB a0).bind fun r1=>
(if (r1==true)=true then jB a1 else some default).bind fun r3=>
Cd ((bif (bif r1 then (!r3) else false) then true else (decide (a0<a1)))) fun v5=>
some v5
noncomputable def DI (a0:Int):Option Bool:=
some (a0 != a0)
noncomputable def Yd (a0:List Int) (a1:Int) (s:Int×Int):Option ((Int×Int)⊕(Int)):=
match s with
| (p9,p10)=>
if (decide (p9<p10))=true then
Cd (IntKind.i64.wrap (Nu .u64 (IntKind.u64.wrap (IntKind.i64.wrap (p9+p10))) 1)) fun v23=>
(Cr a0 v23).bind fun y25=>
(g140 y25 a1).bind fun r27=>
if r27=true then
some (.inl ((IntKind.i64.wrap (v23+1)),p10))
else
some (.inl (p9,v23))
else
some (.inr p9)
noncomputable def g121 (a0:List Int) (a1:Int):Option (Int×Bool):=
(By (Yd a0 a1) (0,(a0.length:Int))).bind fun r30=>
(match r30 with
| p21=>
(if ((decide (p21<(a0.length:Int)))==true)=true then Cr a0 p21 else some default).bind fun y32=>
(if (((decide (p21<(a0.length:Int)))==true)&&((y32==a1)==false))=true then Cr a0 p21 else some default).bind fun y34=>
(if (((decide (p21<(a0.length:Int)))==true)&&((y32==a1)==false))=true then DI y34 else some default).bind fun r36=>
(if ((((decide (p21<(a0.length:Int)))==true)&&((y32==a1)==false))&&(r36==true))=true then DI a1 else some default).bind fun r38=>
Cd ((bif (decide (p21<(a0.length:Int))) then (bif (y32==a1) then true else (bif r36 then r38 else false)) else false)) fun v40=>
some (p21,v40))
def g122 (a0:List Int) (a1:Int) (a2:List Int):Option ((List Int)×(List Int)):=if (0≤a1∧a1≤(a0.length:Int))∧0<a2.length∧a0.length+a2.length≤17592186044416 then some (a0.take a1.toNat++a2++a0.drop a1.toNat,a2) else none
def g123 (a0:List Int) (a1:Int) (a2:Int):Option (List Int):=if (0≤a1∧a1≤a2∧a2≤(a0.length:Int))∧a0.length≤17592186044416 then some (a0.take a1.toNat++a0.drop a2.toNat) else none
noncomputable def Wi (a3:Int) (p13:List Int):Option ((List Int)×Int):=
if (a3==2)=true then
some (p13,15)
else
some (p13,0)
noncomputable def g89 (a0:List Int) (a1:Int) (a2:Bool) (a3:Int):Option ((List Int)×Int):=
(lW a0).bind fun r1=>
if (a3==1)=true then
some (r1,13)
else
(g121 r1 a1).bind fun r4=>
if (bif a2 then (!r4.2) else false)=true then
(g122 r1 r4.1 ([a1]:List Int)).bind fun r17=>
if r17.2.length=([a1]:List Int).length then
Wi a3 r17.1
else none
else
if (bif (!a2) then r4.2 else false)=true then
(g123 r1 r4.1 (IntKind.i64.wrap (r4.1+1))).bind fun r21=>
Wi a3 r21
else
Wi a3 r1
noncomputable def Uq (a0:Dd) (a1:Int) (a2:Bool) (p4:Int):Option (Int×Dd):=
(g89 a0.v.Aj a1 a2 p4).bind fun r5=>
some (r5.2,(Dd.mk (Ap.mk a0.v.Ac a0.v.Ad r5.1 a0.v.Am) a0.a (IntKind.i64.wrap (a0.Gu+1))))
noncomputable def fW (a0:Dd) (a1:Int) (a2:Bool):Option (Int×Dd):=
if (decide (a0.Gu<(a0.a.Bi.length:Int)))=true then
(Cr a0.a.Bi a0.Gu).bind fun y9=>
Uq a0 a1 a2 y9
else
Uq a0 a1 a2 0
noncomputable def Kl (a0:Ap) (a1:Ai) (r1:As×Int×Int) (p4:Int):Option (Ap×Ak):=
if (p4 != 0)=true then
(cN a0 p4).bind fun r6=>
some (r6.1,r6.2)
else
if (a0.Ad.length+([(Ag.mk r1.2.1 false)]:List Ag).length)*16≤140737488355328 then
if (a1.stop==1)=true then
(fV (Ap.mk (As.mk a0.Ac.clock (IntKind.i64.wrap (a0.Ac.next+1)) a0.Ac.Af) (a0.Ad++([(Ag.mk r1.2.1 false)]:List Ag)) a0.Aj a0.Am)).bind fun r10=>
some (r10.1,r10.2)
else
(fW (Dd.mk (Ap.mk (As.mk a0.Ac.clock (IntKind.i64.wrap (a0.Ac.next+1)) a0.Ac.Af) (a0.Ad++([(Ag.mk r1.2.1 false)]:List Ag)) a0.Aj a0.Am) a1 0) r1.2.1 true).bind fun r12=>
if (a1.stop==2)=true then
(fV r12.2.v).bind fun r15=>
some (r15.1,r15.2)
else
if (r12.1 != 0)=true then
(Cr r12.2.v.Ad (IntKind.i64.wrap ((r12.2.v.Ad.length:Int)-1))).bind fun y18=>
(r12.2.v.Ad[(IntKind.i64.wrap ((r12.2.v.Ad.length:Int)-1)).toNat]?).bind fun y20=>
(cN (Ap.mk r12.2.v.Ac (r12.2.v.Ad.set ((IntKind.i64.wrap ((r12.2.v.Ad.length:Int)-1)).toNat) (Ag.mk y20.Br true)) r12.2.v.Aj r12.2.v.Am) r12.1).bind fun r22=>
some (r22.1,r22.2)
else
(cW r12.2.v.Ad 0 (IntKind.i64.wrap ((r12.2.v.Ad.length:Int)-1))).bind fun s24=>
some ((Ap.mk r1.1 s24 r12.2.v.Aj r12.2.v.Am),(Ak.mk 0 r1.2.1))
else none
noncomputable def g465 (a0:Ap) (a1:Ai):Option (Ap×Ak):=
(g71 a0.Ac a1.ttl a1.Db).bind fun r1=>
if (bif (r1.2.2==0) then ((a0.Ad.length:Int)==40) else false)=true then
Kl a0 a1 r1 9
else
Kl a0 a1 r1 r1.2.2
noncomputable def DS (a0:Ap) (a1:As) (a2:Int):Option (Ap×Ak):=
if (a2 != 0)=true then
(cN a0 a2).bind fun r2=>
some (r2.1,r2.2)
else
some ((Ap.mk a1 a0.Ad a0.Aj a0.Am),(Ak.mk 0 0))
def g115 (a0:List Aa) (a1:Int) (a2:Int):Option (List Aa):=if (0≤a1∧a1≤a2∧a2≤(a0.length:Int))∧a0.length≤4398046511104 then some (a0.take a1.toNat++a0.drop a2.toNat) else none
noncomputable def g78 (a0:As) (a1:Int):Option As:=
(fL a0).bind fun r1=>
(g115 r1.Af a1 (IntKind.i64.wrap (a1+1))).bind fun r3=>
some (As.mk r1.clock r1.next r3)
noncomputable def Wd (a0:As) (s:(List Int)×Int):Option (((List Int)×Int)⊕((List Int))):=
match s with
| (p5,p6)=>
if (decide (p6<(a0.Af.length:Int)))=true then
(Cr a0.Af p6).bind fun y15=>
if (p5.length+([y15.id]:List Int).length)*8≤140737488355328 then
some (.inl ((p5++([y15.id]:List Int)),(IntKind.i64.wrap (p6+1))))
else none
else
some (.inr p5)
noncomputable def g60 (a0:As):Option (List Int):=
(By (Wd a0) ([],0)).bind fun r18=>
(match r18 with
| p13=>
some p13)
noncomputable def Tt (a0:List Int) (s:Int):Option ((Int)⊕(Unit⊕Int)):=
match s with
| p5=>
if (decide (p5<(a0.length:Int)))=true then
(Cr a0 p5).bind fun y12=>
if (y12 != 0)=true then
some (.inr (.inr y12))
else
some (.inl (IntKind.i64.wrap (p5+1)))
else
some (.inr (.inl ()))
noncomputable def g109 (a0:List Int):Option Int:=
(By (Tt a0) 0).bind fun r15=>
(match r15 with
| .inl ()=>
some 0
| .inr q=>some q)
noncomputable def g69 (a0:Aa) (a1:Aa):Option Int:=
(rH a0.Bp a1.Bp).bind fun r1=>
(rH a0.id a1.id).bind fun r3=>
(g109 ([r1,r3]:List Int)).bind fun r5=>
some r5
noncomputable def Yg (a1:Int) (is3:Aa→Aa→Option Int) (s:(List Aa)×Int):Option (((List Aa)×Int)⊕((List Aa))):=
match s with
| (p136,p137)=>
(if ((decide (p137>a1))==true)=true then Cr p136 p137 else some default).bind fun y164=>
(if ((decide (p137>a1))==true)=true then p136[p137.toNat]? else some default).bind fun y166=>
(if ((decide (p137>a1))==true)=true then Cr p136 (IntKind.i64.wrap (p137-1)) else some default).bind fun y168=>
(if ((decide (p137>a1))==true)=true then p136[(IntKind.i64.wrap (p137-1)).toNat]? else some default).bind fun y170=>
(if ((decide (p137>a1))==true)=true then is3 y166 y170 else some default).bind fun r172=>
if (bif (decide (p137>a1)) then (decide (r172<0)) else false)=true then
(Cr p136 (IntKind.i64.wrap (p137-1))).bind fun y175=>
(p136[(IntKind.i64.wrap (p137-1)).toNat]?).bind fun y177=>
(Cr p136 p137).bind fun y179=>
(p136[p137.toNat]?).bind fun y181=>
(Cr (p136.set p137.toNat y177) (IntKind.i64.wrap (p137-1))).bind fun y183=>
((p136.set p137.toNat y177)[(IntKind.i64.wrap (p137-1)).toNat]?).bind fun y185=>
some (.inl (((p136.set p137.toNat y177).set ((IntKind.i64.wrap (p137-1)).toNat) y181),(IntKind.i64.wrap (p137-1))))
else
some (.inr p136)
noncomputable def Yf (a1:Int) (a2:Int) (is3:Aa→Aa→Option Int) (s:(List Aa)×Int):Option (((List Aa)×Int)⊕((List Aa))):=
match s with
| (p55,p56)=>
if (decide (p56<a2))=true then
(By (Yg a1 is3) (p55,p56)).bind fun r187=>
(match r187 with
| p163=>
some (.inl (p163,(IntKind.i64.wrap (p56+1)))))
else
some (.inr p55)
noncomputable def g148 (a0:List Aa) (a1:Int) (a2:Int) (is3:Aa→Aa→Option Int):Option (List Aa):=
(By (Yf a1 a2 is3) (a0,(IntKind.i64.wrap (a1+1)))).bind fun r189=>
(match r189 with
| p111=>
some p111)
noncomputable def Nq (a3:Int) (is4:Aa→Aa→Option Int) (p39:List Aa) (p40:Int) (p96:Int):Option (((List Aa)×Int)⊕((List Aa)⊕(List Aa))):=
(Cr p39 (IntKind.i64.wrap (a3+p40))).bind fun y97=>
(p39[(IntKind.i64.wrap (a3+p40)).toNat]?).bind fun y99=>
(Cr p39 (IntKind.i64.wrap (a3+p96))).bind fun y101=>
(p39[(IntKind.i64.wrap (a3+p96)).toNat]?).bind fun y103=>
(is4 y99 y103).bind fun r105=>
if (!(decide (r105<0)))=true then
some (.inr (.inr p39))
else
(Cr p39 (IntKind.i64.wrap (a3+p96))).bind fun y108=>
(p39[(IntKind.i64.wrap (a3+p96)).toNat]?).bind fun y110=>
(Cr p39 (IntKind.i64.wrap (a3+p40))).bind fun y112=>
(p39[(IntKind.i64.wrap (a3+p40)).toNat]?).bind fun y114=>
(Cr (p39.set ((IntKind.i64.wrap (a3+p40)).toNat) y110) (IntKind.i64.wrap (a3+p96))).bind fun y116=>
((p39.set ((IntKind.i64.wrap (a3+p40)).toNat) y110)[(IntKind.i64.wrap (a3+p96)).toNat]?).bind fun y118=>
some (.inl (((p39.set ((IntKind.i64.wrap (a3+p40)).toNat) y110).set ((IntKind.i64.wrap (a3+p96)).toNat) y114),p96))
noncomputable def Yu (a2:Int) (a3:Int) (is4:Aa→Aa→Option Int) (s:(List Aa)×Int):Option (((List Aa)×Int)⊕((List Aa)⊕(List Aa))):=
match s with
| (p39,p40)=>
if (decide ((IntKind.i64.wrap ((IntKind.i64.wrap (2*p40))+1))≥a2))=true then
some (.inr (.inl p39))
else
(if ((decide ((IntKind.i64.wrap ((IntKind.i64.wrap ((IntKind.i64.wrap (2*p40))+1))+1))<a2))==true)=true then Cr p39 (IntKind.i64.wrap (a3+(IntKind.i64.wrap ((IntKind.i64.wrap (2*p40))+1)))) else some default).bind fun y83=>
(if ((decide ((IntKind.i64.wrap ((IntKind.i64.wrap ((IntKind.i64.wrap (2*p40))+1))+1))<a2))==true)=true then p39[(IntKind.i64.wrap (a3+(IntKind.i64.wrap ((IntKind.i64.wrap (2*p40))+1)))).toNat]? else some default).bind fun y85=>
(if ((decide ((IntKind.i64.wrap ((IntKind.i64.wrap ((IntKind.i64.wrap (2*p40))+1))+1))<a2))==true)=true then Cr p39 (IntKind.i64.wrap ((IntKind.i64.wrap (a3+(IntKind.i64.wrap ((IntKind.i64.wrap (2*p40))+1))))+1)) else some default).bind fun y87=>
(if ((decide ((IntKind.i64.wrap ((IntKind.i64.wrap ((IntKind.i64.wrap (2*p40))+1))+1))<a2))==true)=true then p39[(IntKind.i64.wrap ((IntKind.i64.wrap (a3+(IntKind.i64.wrap ((IntKind.i64.wrap (2*p40))+1))))+1)).toNat]? else some default).bind fun y89=>
(if ((decide ((IntKind.i64.wrap ((IntKind.i64.wrap ((IntKind.i64.wrap (2*p40))+1))+1))<a2))==true)=true then is4 y85 y89 else some default).bind fun r91=>
Cd ((bif (decide ((IntKind.i64.wrap ((IntKind.i64.wrap ((IntKind.i64.wrap (2*p40))+1))+1))<a2)) then (decide (r91<0)) else false)) fun v93=>
if v93=true then
Nq a3 is4 p39 p40 (IntKind.i64.wrap ((IntKind.i64.wrap ((IntKind.i64.wrap (2*p40))+1))+1))
else
Nq a3 is4 p39 p40 (IntKind.i64.wrap ((IntKind.i64.wrap (2*p40))+1))
noncomputable def DK (a0:List Aa) (a1:Int) (a2:Int) (a3:Int) (is4:Aa→Aa→Option Int):Option (List Aa):=
(By (Yu a2 a3 is4) (a0,a1)).bind fun r122=>
(match r122 with
| .inl p81=>
some p81
| .inr q=>some q)
noncomputable def Yh (a1:Int) (a2:Int) (is3:Aa→Aa→Option Int) (s:(List Aa)×Int):Option (((List Aa)×Int)⊕((List Aa))):=
match s with
| (p7,p8)=>
if (decide (p8≥0))=true then
(DK p7 p8 (IntKind.i64.wrap (a2-a1)) a1 is3).bind fun r17=>
if r17.length=p7.length then
some (.inl (r17,(IntKind.i64.wrap (p8-1))))
else none
else
some (.inr p7)
noncomputable def Yi (a1:Int) (is3:Aa→Aa→Option Int) (s:(List Aa)×Int):Option (((List Aa)×Int)⊕((List Aa))):=
match s with
| (p38,p39)=>
if (decide (p39≥0))=true then
(Cr p38 (IntKind.i64.wrap (a1+p39))).bind fun y60=>
(p38[(IntKind.i64.wrap (a1+p39)).toNat]?).bind fun y62=>
(Cr p38 a1).bind fun y64=>
(p38[a1.toNat]?).bind fun y66=>
(Cr (p38.set a1.toNat y62) (IntKind.i64.wrap (a1+p39))).bind fun y68=>
((p38.set a1.toNat y62)[(IntKind.i64.wrap (a1+p39)).toNat]?).bind fun y70=>
(DK ((p38.set a1.toNat y62).set ((IntKind.i64.wrap (a1+p39)).toNat) y66) 0 p39 a1 is3).bind fun r72=>
if r72.length=((p38.set a1.toNat y62).set ((IntKind.i64.wrap (a1+p39)).toNat) y66).length then
some (.inl (r72,(IntKind.i64.wrap (p39-1))))
else none
else
some (.inr p38)
noncomputable def g149 (a0:List Aa) (a1:Int) (a2:Int) (is3:Aa→Aa→Option Int):Option (List Aa):=
Cd (IntKind.i64.wrap (((IntKind.i64.wrap ((IntKind.i64.wrap (a2-a1))-1))).tdiv 2)) fun v1=>
(By (Yh a1 a2 is3) (a0,v1)).bind fun r20=>
(match r20 with
| p15=>
(By (Yi a1 is3) (p15,(IntKind.i64.wrap ((IntKind.i64.wrap (a2-a1))-1)))).bind fun r75=>
(match r75 with
| p58=>
some p58))
noncomputable def fQ (p5:Int) (p6:Int):Option Int:=
(Cr ([0,1,2,2,3,3,3,3,4,4,4,4,4,4,4,4,5,5,5,5,5,5,5,5,5,5,5,5,5,5,5,5,6,6,6,6,6,6,6,6,6,6,6,6,6,6,6,6,6,6,6,6,6,6,6,6,6,6,6,6,6,6,6,6,7,7,7,7,7,7,7,7,7,7,7,7,7,7,7,7,7,7,7,7,7,7,7,7,7,7,7,7,7,7,7,7,7,7,7,7,7,7,7,7,7,7,7,7,7,7,7,7,7,7,7,7,7,7,7,7,7,7,7,7,7,7,7,7,8,8,8,8,8,8,8,8,8,8,8,8,8,8,8,8,8,8,8,8,8,8,8,8,8,8,8,8,8,8,8,8,8,8,8,8,8,8,8,8,8,8,8,8,8,8,8,8,8,8,8,8,8,8,8,8,8,8,8,8,8,8,8,8,8,8,8,8,8,8,8,8,8,8,8,8,8,8,8,8,8,8,8,8,8,8,8,8,8,8,8,8,8,8,8,8,8,8,8,8,8,8,8,8,8,8,8,8,8,8,8,8,8,8,8,8,8,8,8,8,8,8,8,8,8,8,8,8]:List UInt8) ((b8 p5).toNat:Int)).bind fun y7=>
some (IntKind.i64.wrap (p6+(IntKind.i64.wrap ((y7).toNat:Int))))
noncomputable def fP (p2:Int) (p3:Int):Option Int:=
if (decide (p2≥256))=true then
fQ (Nu .u32 p2 8) (IntKind.i64.wrap (p3+8))
else
fQ p2 p3
noncomputable def g156 (a0:Int):Option Int:=
if (decide (a0≥65536))=true then
fP (Nu .u32 a0 16) 16
else
fP a0 0
noncomputable def Ug (p8:Int) (p9:Int):Option Int:=
(Cr ([0,1,2,2,3,3,3,3,4,4,4,4,4,4,4,4,5,5,5,5,5,5,5,5,5,5,5,5,5,5,5,5,6,6,6,6,6,6,6,6,6,6,6,6,6,6,6,6,6,6,6,6,6,6,6,6,6,6,6,6,6,6,6,6,7,7,7,7,7,7,7,7,7,7,7,7,7,7,7,7,7,7,7,7,7,7,7,7,7,7,7,7,7,7,7,7,7,7,7,7,7,7,7,7,7,7,7,7,7,7,7,7,7,7,7,7,7,7,7,7,7,7,7,7,7,7,7,7,8,8,8,8,8,8,8,8,8,8,8,8,8,8,8,8,8,8,8,8,8,8,8,8,8,8,8,8,8,8,8,8,8,8,8,8,8,8,8,8,8,8,8,8,8,8,8,8,8,8,8,8,8,8,8,8,8,8,8,8,8,8,8,8,8,8,8,8,8,8,8,8,8,8,8,8,8,8,8,8,8,8,8,8,8,8,8,8,8,8,8,8,8,8,8,8,8,8,8,8,8,8,8,8,8,8,8,8,8,8,8,8,8,8,8,8,8,8,8,8,8,8,8,8,8,8,8,8]:List UInt8) ((b8 p8).toNat:Int)).bind fun y10=>
some (IntKind.i64.wrap (p9+(IntKind.i64.wrap ((y10).toNat:Int))))
noncomputable def Uf (p5:Int) (p6:Int):Option Int:=
if (decide (p5≥256))=true then
Ug (Nu .u64 p5 8) (IntKind.i64.wrap (p6+8))
else
Ug p5 p6
noncomputable def Yt (p2:Int) (p3:Int):Option Int:=
if (decide (p2≥65536))=true then
Uf (Nu .u64 p2 16) (IntKind.i64.wrap (p3+16))
else
Uf p2 p3
noncomputable def g157 (a0:Int):Option Int:=
if (decide (a0≥4294967296))=true then
Yt (Nu .u64 a0 32) 32
else
Yt a0 0
noncomputable def DH (a0:Int):Option Int:=
if false=true then
(g156 (IntKind.u32.wrap a0)).bind fun r2=>
some r2
else
(g157 a0).bind fun r4=>
some r4
noncomputable def g160 (a0:Int):Option Int:=
(DH (IntKind.u64.wrap a0)).bind fun r1=>
if 0≤r1 then
some (gE .u64 1 r1)
else none
noncomputable def g161 (a0:Int):Option (Int×Int):=
Cd (cP .u64 (cP .u64 a0 (gE .u64 a0 13)) (Nu .u64 (cP .u64 a0 (gE .u64 a0 13)) 7)) fun v1=>
some (cP .u64 v1 (gE .u64 v1 17),cP .u64 v1 (gE .u64 v1 17))
noncomputable def Tx (a1:Int) (p27:List Aa) (p28:Int) (r58:Int×Int) (p63:Int):Option (((List Aa)×Int×Int)⊕((List Aa))):=
(Cr p27 (IntKind.i64.wrap (a1+p63))).bind fun y64=>
(p27[(IntKind.i64.wrap (a1+p63)).toNat]?).bind fun y66=>
(Cr p27 p28).bind fun y68=>
(p27[p28.toNat]?).bind fun y70=>
(Cr (p27.set p28.toNat y66) (IntKind.i64.wrap (a1+p63))).bind fun y72=>
((p27.set p28.toNat y66)[(IntKind.i64.wrap (a1+p63)).toNat]?).bind fun y74=>
some (.inl (((p27.set p28.toNat y66).set ((IntKind.i64.wrap (a1+p63)).toNat) y70),(IntKind.i64.wrap (p28+1)),r58.2))
noncomputable def Tz (a1:Int) (a2:Int) (r2:Int) (s:(List Aa)×Int×Int):Option (((List Aa)×Int×Int)⊕((List Aa))):=
match s with
| (p27,p28,p29)=>
Cd ((decide (p28≤(IntKind.i64.wrap ((IntKind.i64.wrap (a1+(IntKind.i64.wrap ((IntKind.i64.wrap (((IntKind.i64.wrap (a2-a1))).tdiv 4))*2))))+1))))) fun v55=>
if v55=true then
(g161 p29).bind fun r58=>
Cd ((decide ((IntKind.i64.wrap (gC .u64 r58.1 (IntKind.u64.wrap (r2-1))))≥(IntKind.i64.wrap (a2-a1))))) fun v60=>
if v60=true then
Tx a1 p27 p28 r58 (IntKind.i64.wrap ((IntKind.i64.wrap (gC .u64 r58.1 (IntKind.u64.wrap (r2-1))))-(IntKind.i64.wrap (a2-a1))))
else
Tx a1 p27 p28 r58 (IntKind.i64.wrap (gC .u64 r58.1 (IntKind.u64.wrap (r2-1))))
else
some (.inr p27)
noncomputable def rN (a0:List Aa) (a1:Int) (a2:Int) (is3:Aa→Aa→Option Int):Option (List Aa):=
if (decide ((IntKind.i64.wrap (a2-a1))≥8))=true then
(g160 (IntKind.i64.wrap (a2-a1))).bind fun r2=>
Cd (IntKind.i64.wrap ((IntKind.i64.wrap (a1+(IntKind.i64.wrap ((IntKind.i64.wrap (((IntKind.i64.wrap (a2-a1))).tdiv 4))*2))))-1)) fun v4=>
(By (Tz a1 a2 r2) (a0,v4,(IntKind.u64.wrap (IntKind.i64.wrap (a2-a1))))).bind fun r78=>
(match r78 with
| p54=>
some p54)
else
some a0
noncomputable def rP (a0:List Aa) (a1:Int) (a2:Int) (a3:Int) (is4:Aa→Aa→Option Int):Option (Int×Int×Int):=
(Cr a0 a2).bind fun y1=>
(Cr a0 a1).bind fun y3=>
(is4 y1 y3).bind fun r5=>
if (decide (r5<0))=true then
some (a2,a1,IntKind.i64.wrap (a3+1))
else
some (a1,a2,a3)
noncomputable def DL (a0:List Aa) (a1:Int) (a2:Int) (a3:Int) (a4:Int) (is5:Aa→Aa→Option Int):Option (Int×Int):=
(rP a0 a1 a2 a4 is5).bind fun r1=>
(rP a0 r1.2.1 a3 r1.2.2 is5).bind fun r3=>
(rP a0 r1.1 r3.1 r3.2.2 is5).bind fun r5=>
some (r5.2.1,r5.2.2)
noncomputable def rO (a0:List Aa) (a1:Int) (a2:Int) (is3:Aa→Aa→Option Int):Option (Int×Int):=
(DL a0 (IntKind.i64.wrap (a1-1)) a1 (IntKind.i64.wrap (a1+1)) a2 is3).bind fun r1=>
some (r1.1,r1.2)
noncomputable def Ua (p21:Int) (p22:Int):Option (Int×Int):=
if (p22==0)=true then
some (p21,1)
else
if (p22==12)=true then
some (p21,2)
else
some (p21,0)
noncomputable def Ub (a0:List Aa) (is3:Aa→Aa→Option Int) (p34:Int) (p35:Int) (p36:Int) (p37:Int):Option (Int×Int):=
(DL a0 p34 p35 p36 p37 is3).bind fun r38=>
Ua r38.1 r38.2
noncomputable def g151 (a0:List Aa) (a1:Int) (a2:Int) (is3:Aa→Aa→Option Int):Option (Int×Int):=
Cd (IntKind.i64.wrap (a1+(IntKind.i64.wrap ((IntKind.i64.wrap (((IntKind.i64.wrap (a2-a1))).tdiv 4))*1)))) fun v1=>
Cd (IntKind.i64.wrap (a1+(IntKind.i64.wrap ((IntKind.i64.wrap (((IntKind.i64.wrap (a2-a1))).tdiv 4))*2)))) fun v3=>
Cd (IntKind.i64.wrap (a1+(IntKind.i64.wrap ((IntKind.i64.wrap (((IntKind.i64.wrap (a2-a1))).tdiv 4))*3)))) fun v5=>
if (decide ((IntKind.i64.wrap (a2-a1))≥8))=true then
if (decide ((IntKind.i64.wrap (a2-a1))≥50))=true then
(rO a0 v1 0 is3).bind fun r42=>
(rO a0 v3 r42.2 is3).bind fun r44=>
(rO a0 v5 r44.2 is3).bind fun r46=>
Ub a0 is3 r42.1 r44.1 r46.1 r46.2
else
Ub a0 is3 v1 v3 v5 0
else
Ua v3 0
noncomputable def Yj  (s:(List Aa)×Int×Int):Option (((List Aa)×Int×Int)⊕((List Aa))):=
match s with
| (p14,p15,p16)=>
if (decide (p15<p16))=true then
(Cr p14 p16).bind fun y35=>
(p14[p16.toNat]?).bind fun y37=>
(Cr p14 p15).bind fun y39=>
(p14[p15.toNat]?).bind fun y41=>
(Cr (p14.set p15.toNat y37) p16).bind fun y43=>
((p14.set p15.toNat y37)[p16.toNat]?).bind fun y45=>
some (.inl (((p14.set p15.toNat y37).set p16.toNat y41),(IntKind.i64.wrap (p15+1)),(IntKind.i64.wrap (p16-1))))
else
some (.inr p14)
noncomputable def g152 (a0:List Aa) (a1:Int) (a2:Int) (is3:Aa→Aa→Option Int):Option (List Aa):=
(By (Yj) (a0,a1,(IntKind.i64.wrap (a2-1)))).bind fun r47=>
(match r47 with
| p33=>
some p33)
noncomputable def Yk (p156:Int) (p465:List Aa) (p466:Int):Option (((List Aa)×Int×Int)⊕((List Aa)⊕(Bool×(List Aa)))):=
some (.inl (p465,p466,(IntKind.i64.wrap (p156+1))))
noncomputable def Ym (a2:Int) (is3:Aa→Aa→Option Int) (p154:List Aa) (s:Int):Option ((Int)⊕(Int)):=
match s with
| p479=>
(if ((decide (p479<a2))==true)=true then Cr p154 p479 else some default).bind fun y493=>
(if ((decide (p479<a2))==true)=true then p154[p479.toNat]? else some default).bind fun y495=>
(if ((decide (p479<a2))==true)=true then Cr p154 (IntKind.i64.wrap (p479-1)) else some default).bind fun y497=>
(if ((decide (p479<a2))==true)=true then p154[(IntKind.i64.wrap (p479-1)).toNat]? else some default).bind fun y499=>
(if ((decide (p479<a2))==true)=true then is3 y495 y499 else some default).bind fun r501=>
if (bif (decide (p479<a2)) then (!(decide (r501<0))) else false)=true then
some (.inl (IntKind.i64.wrap (p479+1)))
else
some (.inr p479)
noncomputable def Yn (a2:Int) (is3:Aa→Aa→Option Int) (s:(List Aa)×Int):Option (((List Aa)×Int)⊕((List Aa))):=
match s with
| (p602,p603)=>
if (decide (p603<a2))=true then
(Cr p602 p603).bind fun y632=>
(p602[p603.toNat]?).bind fun y634=>
(Cr p602 (IntKind.i64.wrap (p603-1))).bind fun y636=>
(p602[(IntKind.i64.wrap (p603-1)).toNat]?).bind fun y638=>
(is3 y634 y638).bind fun r640=>
if (!(decide (r640<0)))=true then
some (.inr p602)
else
(Cr p602 (IntKind.i64.wrap (p603-1))).bind fun y643=>
(p602[(IntKind.i64.wrap (p603-1)).toNat]?).bind fun y645=>
(Cr p602 p603).bind fun y647=>
(p602[p603.toNat]?).bind fun y649=>
(Cr (p602.set p603.toNat y645) (IntKind.i64.wrap (p603-1))).bind fun y651=>
((p602.set p603.toNat y645)[(IntKind.i64.wrap (p603-1)).toNat]?).bind fun y653=>
some (.inl (((p602.set p603.toNat y645).set ((IntKind.i64.wrap (p603-1)).toNat) y649),(IntKind.i64.wrap (p603+1))))
else
some (.inr p602)
noncomputable def Uc (a2:Int) (is3:Aa→Aa→Option Int) (p156:Int) (p492:Int) (p576:List Aa):Option (((List Aa)×Int×Int)⊕((List Aa)⊕(Bool×(List Aa)))):=
if (decide ((IntKind.i64.wrap (a2-p492))≥2))=true then
(By (Yn a2 is3) (p576,(IntKind.i64.wrap (p492+1)))).bind fun r655=>
(match r655 with
| p630=>
Yk p156 p630 p492)
else
Yk p156 p576 p492
noncomputable def Yo (is3:Aa→Aa→Option Int) (s:(List Aa)×Int):Option (((List Aa)×Int)⊕((List Aa))):=
match s with
| (p683,p684)=>
if (decide (p684≥1))=true then
(Cr p683 p684).bind fun y713=>
(p683[p684.toNat]?).bind fun y715=>
(Cr p683 (IntKind.i64.wrap (p684-1))).bind fun y717=>
(p683[(IntKind.i64.wrap (p684-1)).toNat]?).bind fun y719=>
(is3 y715 y719).bind fun r721=>
if (!(decide (r721<0)))=true then
some (.inr p683)
else
(Cr p683 (IntKind.i64.wrap (p684-1))).bind fun y724=>
(p683[(IntKind.i64.wrap (p684-1)).toNat]?).bind fun y726=>
(Cr p683 p684).bind fun y728=>
(p683[p684.toNat]?).bind fun y730=>
(Cr (p683.set p684.toNat y726) (IntKind.i64.wrap (p684-1))).bind fun y732=>
((p683.set p684.toNat y726)[(IntKind.i64.wrap (p684-1)).toNat]?).bind fun y734=>
some (.inl (((p683.set p684.toNat y726).set ((IntKind.i64.wrap (p684-1)).toNat) y730),(IntKind.i64.wrap (p684-1))))
else
some (.inr p683)
noncomputable def Yl (a1:Int) (a2:Int) (is3:Aa→Aa→Option Int) (s:(List Aa)×Int×Int):Option (((List Aa)×Int×Int)⊕((List Aa)⊕(Bool×(List Aa)))):=
match s with
| (p154,p155,p156)=>
if (decide (p156<5))=true then
(By (Ym a2 is3 p154) p155).bind fun r504=>
(match r504 with
| p492=>
if (p492==a2)=true then
some (.inr (.inr (true,p154)))
else
if (decide ((IntKind.i64.wrap (a2-a1))<50))=true then
some (.inr (.inr (false,p154)))
else
(Cr p154 (IntKind.i64.wrap (p492-1))).bind fun y508=>
(p154[(IntKind.i64.wrap (p492-1)).toNat]?).bind fun y510=>
(Cr p154 p492).bind fun y512=>
(p154[p492.toNat]?).bind fun y514=>
(Cr (p154.set p492.toNat y510) (IntKind.i64.wrap (p492-1))).bind fun y516=>
((p154.set p492.toNat y510)[(IntKind.i64.wrap (p492-1)).toNat]?).bind fun y518=>
Cd ((p154.set p492.toNat y510).set ((IntKind.i64.wrap (p492-1)).toNat) y514) fun v520=>
if (decide ((IntKind.i64.wrap (p492-a1))≥2))=true then
(By (Yo is3) (v520,(IntKind.i64.wrap (p492-1)))).bind fun r736=>
(match r736 with
| p711=>
Uc a2 is3 p156 p492 p711)
else
Uc a2 is3 p156 p492 v520)
else
some (.inr (.inl p154))
noncomputable def g153 (a0:List Aa) (a1:Int) (a2:Int) (is3:Aa→Aa→Option Int):Option (Bool×(List Aa)):=
(By (Yl a1 a2 is3) (a0,(IntKind.i64.wrap (a1+1)),0)).bind fun r738=>
(match r738 with
| .inl p313=>
some (false,p313)
| .inr q=>some q)
noncomputable def Yq (a1:Int) (is4:Aa→Aa→Option Int) (p84:List Aa) (p86:Int) (s:Int):Option ((Int)⊕(Int)):=
match s with
| p166=>
(if ((decide (p166≤p86))==true)=true then Cr p84 a1 else some default).bind fun y180=>
(if ((decide (p166≤p86))==true)=true then p84[a1.toNat]? else some default).bind fun y182=>
(if ((decide (p166≤p86))==true)=true then Cr p84 p166 else some default).bind fun y184=>
(if ((decide (p166≤p86))==true)=true then p84[p166.toNat]? else some default).bind fun y186=>
(if ((decide (p166≤p86))==true)=true then is4 y182 y186 else some default).bind fun r188=>
if (bif (decide (p166≤p86)) then (!(decide (r188<0))) else false)=true then
some (.inl (IntKind.i64.wrap (p166+1)))
else
some (.inr p166)
noncomputable def Yr (a1:Int) (is4:Aa→Aa→Option Int) (p84:List Aa) (p179:Int) (s:Int):Option ((Int)⊕(Int)):=
match s with
| p204=>
(if ((decide (p179≤p204))==true)=true then Cr p84 a1 else some default).bind fun y218=>
(if ((decide (p179≤p204))==true)=true then p84[a1.toNat]? else some default).bind fun y220=>
(if ((decide (p179≤p204))==true)=true then Cr p84 p204 else some default).bind fun y222=>
(if ((decide (p179≤p204))==true)=true then p84[p204.toNat]? else some default).bind fun y224=>
(if ((decide (p179≤p204))==true)=true then is4 y220 y224 else some default).bind fun r226=>
if (bif (decide (p179≤p204)) then (decide (r226<0)) else false)=true then
some (.inl (IntKind.i64.wrap (p204-1)))
else
some (.inr p204)
noncomputable def Yp (a1:Int) (is4:Aa→Aa→Option Int) (s:(List Aa)×Int×Int):Option (((List Aa)×Int×Int)⊕((List Aa)×Int)):=
match s with
| (p84,p85,p86)=>
(By (Yq a1 is4 p84 p86) p85).bind fun r191=>
(match r191 with
| p179=>
(By (Yr a1 is4 p84 p179) p86).bind fun r229=>
(match r229 with
| p217=>
if (decide (p179>p217))=true then
some (.inr (p84,p179))
else
(Cr p84 p217).bind fun y232=>
(p84[p217.toNat]?).bind fun y234=>
(Cr p84 p179).bind fun y236=>
(p84[p179.toNat]?).bind fun y238=>
(Cr (p84.set p179.toNat y234) p217).bind fun y240=>
((p84.set p179.toNat y234)[p217.toNat]?).bind fun y242=>
some (.inl (((p84.set p179.toNat y234).set p217.toNat y238),(IntKind.i64.wrap (p179+1)),(IntKind.i64.wrap (p217-1))))))
noncomputable def g154 (a0:List Aa) (a1:Int) (a2:Int) (a3:Int) (is4:Aa→Aa→Option Int):Option (Int×(List Aa)):=
(Cr a0 a3).bind fun y1=>
(a0[a3.toNat]?).bind fun y3=>
(Cr a0 a1).bind fun y5=>
(a0[a1.toNat]?).bind fun y7=>
(Cr (a0.set a1.toNat y3) a3).bind fun y9=>
((a0.set a1.toNat y3)[a3.toNat]?).bind fun y11=>
(By (Yp a1 is4) (((a0.set a1.toNat y3).set a3.toNat y7),(IntKind.i64.wrap (a1+1)),(IntKind.i64.wrap (a2-1)))).bind fun r244=>
(match r244 with
| (p153,p154)=>
some (p154,p153))
noncomputable def fN (a0:List Aa) (a1:Int) (a2:Int) (a3:Int) (is4:Aa→Aa→Option Int) (y3:Aa) (y7:Aa) (s:Int):Option ((Int)⊕(Int)):=
match s with
| p26=>
(if ((decide (p26≤(IntKind.i64.wrap (a2-1))))==true)=true then Cr ((a0.set a1.toNat y3).set a3.toNat y7) p26 else some default).bind fun y42=>
(if ((decide (p26≤(IntKind.i64.wrap (a2-1))))==true)=true then ((a0.set a1.toNat y3).set a3.toNat y7)[p26.toNat]? else some default).bind fun y44=>
(if ((decide (p26≤(IntKind.i64.wrap (a2-1))))==true)=true then Cr ((a0.set a1.toNat y3).set a3.toNat y7) a1 else some default).bind fun y46=>
(if ((decide (p26≤(IntKind.i64.wrap (a2-1))))==true)=true then ((a0.set a1.toNat y3).set a3.toNat y7)[a1.toNat]? else some default).bind fun y48=>
(if ((decide (p26≤(IntKind.i64.wrap (a2-1))))==true)=true then is4 y44 y48 else some default).bind fun r50=>
Cd ((bif (decide (p26≤(IntKind.i64.wrap (a2-1)))) then (decide (r50<0)) else false)) fun v52=>
if v52=true then
some (.inl (IntKind.i64.wrap (p26+1)))
else
some (.inr p26)
noncomputable def fO (a0:List Aa) (a1:Int) (a3:Int) (is4:Aa→Aa→Option Int) (y3:Aa) (y7:Aa) (p41:Int) (s:Int):Option ((Int)⊕(Int)):=
match s with
| p70=>
(if ((decide (p41≤p70))==true)=true then Cr ((a0.set a1.toNat y3).set a3.toNat y7) p70 else some default).bind fun y84=>
(if ((decide (p41≤p70))==true)=true then ((a0.set a1.toNat y3).set a3.toNat y7)[p70.toNat]? else some default).bind fun y86=>
(if ((decide (p41≤p70))==true)=true then Cr ((a0.set a1.toNat y3).set a3.toNat y7) a1 else some default).bind fun y88=>
(if ((decide (p41≤p70))==true)=true then ((a0.set a1.toNat y3).set a3.toNat y7)[a1.toNat]? else some default).bind fun y90=>
(if ((decide (p41≤p70))==true)=true then is4 y86 y90 else some default).bind fun r92=>
if (bif (decide (p41≤p70)) then (!(decide (r92<0))) else false)=true then
some (.inl (IntKind.i64.wrap (p70-1)))
else
some (.inr p70)
noncomputable def Ud (a1:Int) (is4:Aa→Aa→Option Int) (p195:List Aa) (p197:Int) (s:Int):Option ((Int)⊕(Int)):=
match s with
| p277=>
(if ((decide (p277≤p197))==true)=true then Cr p195 p277 else some default).bind fun y291=>
(if ((decide (p277≤p197))==true)=true then p195[p277.toNat]? else some default).bind fun y293=>
(if ((decide (p277≤p197))==true)=true then Cr p195 a1 else some default).bind fun y295=>
(if ((decide (p277≤p197))==true)=true then p195[a1.toNat]? else some default).bind fun y297=>
(if ((decide (p277≤p197))==true)=true then is4 y293 y297 else some default).bind fun r299=>
if (bif (decide (p277≤p197)) then (decide (r299<0)) else false)=true then
some (.inl (IntKind.i64.wrap (p277+1)))
else
some (.inr p277)
noncomputable def Ue (a1:Int) (is4:Aa→Aa→Option Int) (p195:List Aa) (p290:Int) (s:Int):Option ((Int)⊕(Int)):=
match s with
| p315=>
(if ((decide (p290≤p315))==true)=true then Cr p195 p315 else some default).bind fun y329=>
(if ((decide (p290≤p315))==true)=true then p195[p315.toNat]? else some default).bind fun y331=>
(if ((decide (p290≤p315))==true)=true then Cr p195 a1 else some default).bind fun y333=>
(if ((decide (p290≤p315))==true)=true then p195[a1.toNat]? else some default).bind fun y335=>
(if ((decide (p290≤p315))==true)=true then is4 y331 y335 else some default).bind fun r337=>
if (bif (decide (p290≤p315)) then (!(decide (r337<0))) else false)=true then
some (.inl (IntKind.i64.wrap (p315-1)))
else
some (.inr p315)
noncomputable def Ys (a1:Int) (is4:Aa→Aa→Option Int) (s:(List Aa)×Int×Int):Option (((List Aa)×Int×Int)⊕((List Aa)×Int)):=
match s with
| (p195,p196,p197)=>
(By (Ud a1 is4 p195 p197) p196).bind fun r302=>
(match r302 with
| p290=>
(By (Ue a1 is4 p195 p290) p197).bind fun r340=>
(match r340 with
| p328=>
if (decide (p290>p328))=true then
some (.inr (p195,p328))
else
(Cr p195 p328).bind fun y343=>
(p195[p328.toNat]?).bind fun y345=>
(Cr p195 p290).bind fun y347=>
(p195[p290.toNat]?).bind fun y349=>
(Cr (p195.set p290.toNat y345) p328).bind fun y351=>
((p195.set p290.toNat y345)[p328.toNat]?).bind fun y353=>
some (.inl (((p195.set p290.toNat y345).set p328.toNat y349),(IntKind.i64.wrap (p290+1)),(IntKind.i64.wrap (p328-1))))))
noncomputable def DJ (a0:List Aa) (a1:Int) (a2:Int) (a3:Int) (is4:Aa→Aa→Option Int):Option (Int×Bool×(List Aa)):=
(Cr a0 a3).bind fun y1=>
(a0[a3.toNat]?).bind fun y3=>
(Cr a0 a1).bind fun y5=>
(a0[a1.toNat]?).bind fun y7=>
(Cr (a0.set a1.toNat y3) a3).bind fun y9=>
((a0.set a1.toNat y3)[a3.toNat]?).bind fun y11=>
(By (fN a0 a1 a2 a3 is4 y3 y7) (IntKind.i64.wrap (a1+1))).bind fun r55=>
(match r55 with
| p41=>
(By (fO a0 a1 a3 is4 y3 y7 p41) (IntKind.i64.wrap (a2-1))).bind fun r95=>
(match r95 with
| p83=>
if (decide (p41>p83))=true then
(Cr ((a0.set a1.toNat y3).set a3.toNat y7) a1).bind fun y98=>
(((a0.set a1.toNat y3).set a3.toNat y7)[a1.toNat]?).bind fun y100=>
(Cr ((a0.set a1.toNat y3).set a3.toNat y7) p83).bind fun y102=>
(((a0.set a1.toNat y3).set a3.toNat y7)[p83.toNat]?).bind fun y104=>
(Cr (((a0.set a1.toNat y3).set a3.toNat y7).set p83.toNat y100) a1).bind fun y106=>
((((a0.set a1.toNat y3).set a3.toNat y7).set p83.toNat y100)[a1.toNat]?).bind fun y108=>
Cd ((((a0.set a1.toNat y3).set a3.toNat y7).set p83.toNat y100).set a1.toNat y104) fun v110=>
some (p83,true,v110)
else
(Cr ((a0.set a1.toNat y3).set a3.toNat y7) p83).bind fun y112=>
(((a0.set a1.toNat y3).set a3.toNat y7)[p83.toNat]?).bind fun y114=>
(Cr ((a0.set a1.toNat y3).set a3.toNat y7) p41).bind fun y116=>
(((a0.set a1.toNat y3).set a3.toNat y7)[p41.toNat]?).bind fun y118=>
(Cr (((a0.set a1.toNat y3).set a3.toNat y7).set p41.toNat y114) p83).bind fun y120=>
((((a0.set a1.toNat y3).set a3.toNat y7).set p41.toNat y114)[p83.toNat]?).bind fun y122=>
Cd ((((a0.set a1.toNat y3).set a3.toNat y7).set p41.toNat y114).set p83.toNat y118) fun v124=>
(By (Ys a1 is4) (v124,(IntKind.i64.wrap (p41+1)),(IntKind.i64.wrap (p83-1)))).bind fun r355=>
(match r355 with
| (p264,p265)=>
(Cr p264 a1).bind fun y357=>
(p264[a1.toNat]?).bind fun y359=>
(Cr p264 p265).bind fun y361=>
(p264[p265.toNat]?).bind fun y363=>
(Cr (p264.set p265.toNat y359) a1).bind fun y365=>
((p264.set p265.toNat y359)[a1.toNat]?).bind fun y367=>
some (p265,false,(p264.set p265.toNat y359).set a1.toNat y363))))
noncomputable def Tw (is4:Aa→Aa→Option Int) (rc137:(List Aa)→Int→Int→Int→(Aa→Aa→Option Int)→Option (List Aa)) (p63:Int) (p64:Int) (p66:Bool) (p67:Bool) (p148:Int) (p158:Int) (p165:List Aa):Option (((List Aa)×Int×Int×Int×Bool×Bool)⊕((List Aa))):=
(if ((decide (p63>0))==true)=true then Cr p165 (IntKind.i64.wrap (p63-1)) else some default).bind fun y166=>
(if ((decide (p63>0))==true)=true then p165[(IntKind.i64.wrap (p63-1)).toNat]? else some default).bind fun y168=>
(if ((decide (p63>0))==true)=true then Cr p165 p158 else some default).bind fun y170=>
(if ((decide (p63>0))==true)=true then p165[p158.toNat]? else some default).bind fun y172=>
(if ((decide (p63>0))==true)=true then is4 y168 y172 else some default).bind fun r174=>
if (bif (decide (p63>0)) then (!(decide (r174<0))) else false)=true then
(g154 p165 p63 p64 p158 is4).bind fun r177=>
if r177.2.length=p165.length then
some (.inl (r177.2,r177.1,p64,p148,p66,p67))
else none
else
(DJ p165 p63 p64 p158 is4).bind fun r180=>
if r180.2.2.length=p165.length then
Cd ((decide ((IntKind.i64.wrap (r180.1-p63))<(IntKind.i64.wrap (p64-r180.1))))) fun v183=>
if v183=true then
Cd ((decide ((IntKind.i64.wrap (r180.1-p63))≥(IntKind.i64.wrap (((IntKind.i64.wrap (p64-p63))).tdiv 8))))) fun v186=>
(rc137 r180.2.2 p63 r180.1 p148 is4).bind fun r188=>
if r188.length=r180.2.2.length then
some (.inl (r188,(IntKind.i64.wrap (r180.1+1)),p64,p148,v186,r180.2.1))
else none
else
Cd ((decide ((IntKind.i64.wrap (p64-r180.1))≥(IntKind.i64.wrap (((IntKind.i64.wrap (p64-p63))).tdiv 8))))) fun v191=>
(rc137 r180.2.2 (IntKind.i64.wrap (r180.1+1)) p64 p148 is4).bind fun r193=>
if r193.length=r180.2.2.length then
some (.inl (r193,p63,r180.1,p148,v191,r180.2.1))
else none
else none
noncomputable def Rb (is4:Aa→Aa→Option Int) (rc137:(List Aa)→Int→Int→Int→(Aa→Aa→Option Int)→Option (List Aa)) (p63:Int) (p64:Int) (p66:Bool) (p67:Bool) (p148:Int) (p157:List Aa) (p158:Int) (p159:Int):Option (((List Aa)×Int×Int×Int×Bool×Bool)⊕((List Aa))):=
if (bif (bif p66 then p67 else false) then (p159==1) else false)=true then
(g153 p157 p63 p64 is4).bind fun r198=>
if r198.2.length=p157.length then
if r198.1=true then
some (.inr r198.2)
else
Tw is4 rc137 p63 p64 p66 p67 p148 p158 r198.2
else none
else
Tw is4 rc137 p63 p64 p66 p67 p148 p158 p157
noncomputable def Md (is4:Aa→Aa→Option Int) (rc137:(List Aa)→Int→Int→Int→(Aa→Aa→Option Int)→Option (List Aa)) (p63:Int) (p64:Int) (p66:Bool) (p67:Bool) (p147:List Aa) (p148:Int):Option (((List Aa)×Int×Int×Int×Bool×Bool)⊕((List Aa))):=
(g151 p147 p63 p64 is4).bind fun r149=>
if (r149.2==2)=true then
(g152 p147 p63 p64 is4).bind fun r204=>
if r204.length=p147.length then
Cd (IntKind.i64.wrap ((IntKind.i64.wrap (p64-1))-(IntKind.i64.wrap (r149.1-p63)))) fun v207=>
Rb is4 rc137 p63 p64 p66 p67 p148 r204 v207 1
else none
else
Rb is4 rc137 p63 p64 p66 p67 p148 p147 r149.1 r149.2
noncomputable def Kk (is4:Aa→Aa→Option Int) (rc137:(List Aa)→Int→Int→Int→(Aa→Aa→Option Int)→Option (List Aa)) (s:(List Aa)×Int×Int×Int×Bool×Bool):Option (((List Aa)×Int×Int×Int×Bool×Bool)⊕((List Aa))):=
match s with
| (p62,p63,p64,p65,p66,p67)=>
if (decide ((IntKind.i64.wrap (p64-p63))≤12))=true then
(g148 p62 p63 p64 is4).bind fun r136=>
if r136.length=p62.length then
some (.inr r136)
else none
else
if (p65==0)=true then
(g149 p62 p63 p64 is4).bind fun r140=>
if r140.length=p62.length then
some (.inr r140)
else none
else
if (!p66)=true then
(rN p62 p63 p64 is4).bind fun r211=>
if r211.length=p62.length then
Md is4 rc137 p63 p64 p66 p67 r211 (IntKind.i64.wrap (p65-1))
else none
else
Md is4 rc137 p63 p64 p66 p67 p62 p65
noncomputable def Wb (rc137:(List Aa)→Int→Int→Int→(Aa→Aa→Option Int)→Option (List Aa)) (a0:List Aa) (a1:Int) (a2:Int) (a3:Int) (is4:Aa→Aa→Option Int):Option (List Aa):=
(By (Kk is4 rc137) (a0,a1,a2,a3,true,true)).bind fun r214=>
(match r214 with
| q=>some q)
noncomputable def lY (n:Nat):(List Aa)→Int→Int→Int→(Aa→Aa→Option Int)→Option (List Aa):=Nat.rec (fun _ _ _ _ _=>none) (fun _ rc=>Wb rc) n
noncomputable def DF (a0:List Aa) (is1:Aa→Aa→Option Int):Option (List Aa):=
(DH (IntKind.u64.wrap (a0.length:Int))).bind fun r1=>
(lY Oy a0 0 (a0.length:Int) r1 is1).bind fun r3=>
if r3.length=a0.length then
some r3
else none
noncomputable def aH (p21:Int) (p58:List Aa) (p59:List Aa):Option (((List Aa)×(List Aa)×Int)⊕((List Aa)×(List Aa))):=
some (.inl (p58,p59,(IntKind.i64.wrap (p21+1))))
noncomputable def Sq (a0:As) (a1:Int) (r1:As) (s:(List Aa)×(List Aa)×Int):Option (((List Aa)×(List Aa)×Int)⊕((List Aa)×(List Aa))):=
match s with
| (p19,p20,p21)=>
if (decide (p21<(r1.Af.length:Int)))=true then
(Cr p20 p21).bind fun y62=>
(p20[p21.toNat]?).bind fun y64=>
Cd ((bif (!y64.Cl) then (decide (y64.Bp≤(if a1>a0.clock then a1 else a0.clock))) else false)) fun v66=>
if v66=true then
(Cr p20 p21).bind fun y69=>
(p20[p21.toNat]?).bind fun y71=>
if (p19.length+([y64]:List Aa).length)*32≤140737488355328 then
aH p21 (p19++([y64]:List Aa)) (p20.set p21.toNat (Aa.mk y71.id y71.Bp y71.cap true))
else none
else
aH p21 p19 p20
else
some (.inr (p19,p20))
noncomputable def g82 (a0:As) (a1:Int):Option (As×(List Int)):=
(fL a0).bind fun r1=>
(By (Sq a0 a1 r1) ([],r1.Af,0)).bind fun r74=>
(match r74 with
| (p43,p44)=>
(DF p43 (fun z69_0 z69_1=>g69 z69_0 z69_1)).bind fun r76=>
if r76.length=p43.length then
(g60 (As.mk 0 0 r76)).bind fun r79=>
some ((As.mk (if a1>a0.clock then a1 else a0.clock) r1.next p44),r79)
else none)
noncomputable def mQ (a0:Ai) (a1:Dd):Option Bool:=
some (bif (a0.stop==2) then (a1.Gu==1) else false)
noncomputable def pH (a0:List Ag) (is1:Ag→Option Bool) (s:Int):Option ((Int)⊕(Unit⊕Int)):=
match s with
| p7=>
if (decide (p7<(a0.length:Int)))=true then
(Cr a0 p7).bind fun y16=>
(is1 y16).bind fun r18=>
if r18=true then
some (.inr (.inr p7))
else
some (.inl (IntKind.i64.wrap (p7+1)))
else
some (.inr (.inl ()))
noncomputable def g475 (a0:List Ag) (is1:Ag→Option Bool):Option Int:=
(By (pH a0 is1) 0).bind fun r21=>
(match r21 with
| .inl ()=>
some (-1)
| .inr q=>some q)
noncomputable def fX (p20:Int) (p52:List Ag) (p53:Int):Option (((List Ag)×Int×Int)⊕((List Ag)×Int)):=
some (.inl (p52,p53,(IntKind.i64.wrap (p20+1))))
noncomputable def pG (is1:Ag→Option Bool) (s:(List Ag)×Int×Int):Option (((List Ag)×Int×Int)⊕((List Ag)×Int)):=
match s with
| (p18,p19,p20)=>
if (decide (p20<(p18.length:Int)))=true then
(Cr p18 p20).bind fun y55=>
(p18[p20.toNat]?).bind fun y57=>
(is1 y57).bind fun r59=>
if (!r59)=true then
(Cr p18 p19).bind fun y62=>
(p18[p19.toNat]?).bind fun y64=>
fX p20 (p18.set p19.toNat y57) (IntKind.i64.wrap (p19+1))
else
fX p20 p18 p19
else
some (.inr (p18,p19))
noncomputable def DT (a0:List Ag) (is1:Ag→Option Bool):Option (List Ag):=
(g475 a0 is1).bind fun r1=>
if (r1==(-1))=true then
some a0
else
(By (pG is1) (a0,r1,(IntKind.i64.wrap (r1+1)))).bind fun r66=>
(match r66 with
| (p38,p39)=>
(cW p38 p39 (p38.length:Int)).bind fun s68=>
(cW (ovl p38 p39.toNat (List.replicate s68.length (Ag.mk 0 false))) 0 p39).bind fun s70=>
some s70)
noncomputable def DU (a0:Ag) (a1:Ag):Option Bool:=
some (a0.Br==a1.Br)
noncomputable def Uo (p43:Int) (p143:Int) (p144:Int) (p145:List Aa) (p146:List Ag) (p147:List Int) (p148:Bool) (p149:Int) (p150:Int) (p151:Int) (p152:Int) (p153:Int) (p154:List Int) (p155:Int) (p156:Int):Option ((Int×Int×Int×(List Aa)×(List Ag)×(List Int)×Bool×Int×Int×Int×Int×Int×(List Int)×Int×Int)⊕((Int×Int×(List Aa)×(List Ag)×(List Int)×Bool×Int×Int×Int×Int×Int×(List Int)×Int×Int)⊕(Ap×Ak))):=
some (.inl ((IntKind.i64.wrap (p43+1)),p143,p144,p145,p146,p147,p148,p149,p150,p151,p152,p153,p154,p155,p156))
noncomputable def Rg (a1:Ai) (p43:Int) (r163:Int×Dd) (p170:Int) (p171:Int) (p172:List Aa):Option ((Int×Int×Int×(List Aa)×(List Ag)×(List Int)×Bool×Int×Int×Int×Int×Int×(List Int)×Int×Int)⊕((Int×Int×(List Aa)×(List Ag)×(List Int)×Bool×Int×Int×Int×Int×Int×(List Int)×Int×Int)⊕(Ap×Ak))):=
(mQ a1 (Dd.mk (Ap.mk (As.mk p170 p171 p172) r163.2.v.Ad r163.2.v.Aj r163.2.v.Am) r163.2.a r163.2.Gu)).bind fun r173=>
if r173=true then
(fV (Ap.mk (As.mk p170 p171 p172) r163.2.v.Ad r163.2.v.Aj r163.2.v.Am)).bind fun r176=>
some (.inr (.inr (r176.1,r176.2)))
else
Uo p43 p170 p171 p172 r163.2.v.Ad r163.2.v.Aj r163.2.v.Am r163.2.a.kind r163.2.a.id r163.2.a.ttl r163.2.a.Db r163.2.a.clock r163.2.a.Bi r163.2.a.stop r163.2.Gu
noncomputable def Km (a1:Ai) (r6:(List Aa)) (s:Int×Int×Int×(List Aa)×(List Ag)×(List Int)×Bool×Int×Int×Int×Int×Int×(List Int)×Int×Int):Option ((Int×Int×Int×(List Aa)×(List Ag)×(List Int)×Bool×Int×Int×Int×Int×Int×(List Int)×Int×Int)⊕((Int×Int×(List Aa)×(List Ag)×(List Int)×Bool×Int×Int×Int×Int×Int×(List Int)×Int×Int)⊕(Ap×Ak))):=
match s with
| (p43,p44,p45,p46,p47,p48,p49,p50,p51,p52,p53,p54,p55,p56,p57)=>
if (decide (p43<(r6.length:Int)))=true then
(Cr r6 p43).bind fun y158=>
(r6[p43.toNat]?).bind fun y160=>
if (!y160.Cl)=true then
Uo p43 p44 p45 p46 p47 p48 p49 p50 p51 p52 p53 p54 p55 p56 p57
else
(fW (Dd.mk (Ap.mk (As.mk p44 p45 p46) p47 p48 p49) (Ai.mk p50 p51 p52 p53 p54 p55 p56) p57) y160.id false).bind fun r163=>
(g77 r163.2.v.Ac y160.id).bind fun r165=>
if (r163.1==0)=true then
(g78 r163.2.v.Ac r165.1).bind fun r180=>
Rg a1 p43 r163 r180.clock r180.next r180.Af
else
Rg a1 p43 r163 r163.2.v.Ac.clock r163.2.v.Ac.next r163.2.v.Ac.Af
else
some (.inr (.inl (p44,p45,p46,p47,p48,p49,p50,p51,p52,p53,p54,p55,p56,p57)))
noncomputable def Up (p217:Int) (p309:Int) (p310:Int) (p311:List Aa) (p312:List Ag) (p313:List Int) (p314:Bool) (p315:Int) (p316:Int) (p317:Int) (p318:Int) (p319:Int) (p320:List Int) (p321:Int) (p322:Int):Option ((Int×Int×Int×(List Aa)×(List Ag)×(List Int)×Bool×Int×Int×Int×Int×Int×(List Int)×Int×Int)⊕((Int×Int×(List Aa)×(List Ag)×(List Int)×Bool×Int×Int×Int×Int×Int×(List Int)×Int×Int)⊕(Ap×Ak))):=
some (.inl ((IntKind.i64.wrap (p217+1)),p309,p310,p311,p312,p313,p314,p315,p316,p317,p318,p319,p320,p321,p322))
noncomputable def Rh (a1:Ai) (p217:Int) (r329:Int×Dd) (p334:List Ag):Option ((Int×Int×Int×(List Aa)×(List Ag)×(List Int)×Bool×Int×Int×Int×Int×Int×(List Int)×Int×Int)⊕((Int×Int×(List Aa)×(List Ag)×(List Int)×Bool×Int×Int×Int×Int×Int×(List Int)×Int×Int)⊕(Ap×Ak))):=
(mQ a1 (Dd.mk (Ap.mk r329.2.v.Ac p334 r329.2.v.Aj r329.2.v.Am) r329.2.a r329.2.Gu)).bind fun r335=>
if r335=true then
(fV (Ap.mk r329.2.v.Ac p334 r329.2.v.Aj r329.2.v.Am)).bind fun r338=>
some (.inr (.inr (r338.1,r338.2)))
else
Up p217 r329.2.v.Ac.clock r329.2.v.Ac.next r329.2.v.Ac.Af p334 r329.2.v.Aj r329.2.v.Am r329.2.a.kind r329.2.a.id r329.2.a.ttl r329.2.a.Db r329.2.a.clock r329.2.a.Bi r329.2.a.stop r329.2.Gu
noncomputable def Iw (a1:Ai) (r184:(List Ag)) (s:Int×Int×Int×(List Aa)×(List Ag)×(List Int)×Bool×Int×Int×Int×Int×Int×(List Int)×Int×Int):Option ((Int×Int×Int×(List Aa)×(List Ag)×(List Int)×Bool×Int×Int×Int×Int×Int×(List Int)×Int×Int)⊕((Int×Int×(List Aa)×(List Ag)×(List Int)×Bool×Int×Int×Int×Int×Int×(List Int)×Int×Int)⊕(Ap×Ak))):=
match s with
| (p217,p218,p219,p220,p221,p222,p223,p224,p225,p226,p227,p228,p229,p230,p231)=>
if (decide (p217<(r184.length:Int)))=true then
(Cr r184 p217).bind fun y324=>
(r184[p217.toNat]?).bind fun y326=>
if (!y326.Jx)=true then
Up p217 p218 p219 p220 p221 p222 p223 p224 p225 p226 p227 p228 p229 p230 p231
else
(fW (Dd.mk (Ap.mk (As.mk p218 p219 p220) p221 p222 p223) (Ai.mk p224 p225 p226 p227 p228 p229 p230) p231) y326.Br false).bind fun r329=>
if (r329.1==0)=true then
(DT r329.2.v.Ad (fun z474_0=>DU z474_0 y326)).bind fun r342=>
Rh a1 p217 r329 r342
else
Rh a1 p217 r329 r329.2.v.Ad
else
some (.inr (.inl (p218,p219,p220,p221,p222,p223,p224,p225,p226,p227,p228,p229,p230,p231)))
noncomputable def g467 (a0:Ap) (a1:Ai):Option (Ap×Ak):=
(g82 a0.Ac a1.clock).bind fun r1=>
if (a1.stop==1)=true then
(fV (Ap.mk r1.1 a0.Ad a0.Aj a0.Am)).bind fun r4=>
some (r4.1,r4.2)
else
(g66 r1.1.Af).bind fun r6=>
(By (Km a1 r6) (0,r1.1.clock,r1.1.next,r1.1.Af,a0.Ad,a0.Aj,a0.Am,a1.kind,a1.id,a1.ttl,a1.Db,a1.clock,a1.Bi,a1.stop,0)).bind fun r182=>
(match r182 with
| .inl (p108,p109,p110,p111,p112,p113,p114,p115,p116,p117,p118,p119,p120,p121)=>
(mP p111).bind fun r184=>
(By (Iw a1 r184) (0,p108,p109,p110,p111,p112,p113,p114,p115,p116,p117,p118,p119,p120,p121)).bind fun r344=>
(match r344 with
| .inl (p278,p279,p280,p281,p282,p283,p284,p285,p286,p287,p288,p289,p290,p291)=>
some ((Ap.mk (As.mk p278 p279 p280) p281 p282 p283),(Ak.mk 0 0))
| .inr q=>some q)
| .inr q=>some q)
noncomputable def rS (a0:Ap) (a1:Ai):Option (Ap×Ak):=
(g463 a0).bind fun r1=>
(g63 a1.kind 1 6).bind fun r3=>
if (!r3)=true then
(cN r1 16).bind fun r6=>
some (r6.1,r6.2)
else
if (bif r1.Am then (a1.kind != 6) else false)=true then
(cN r1 14).bind fun r9=>
some (r9.1,r9.2)
else
if (a1.kind==1)=true then
(g465 r1 a1).bind fun r12=>
some (r12.1,r12.2)
else
if (a1.kind==2)=true then
(g80 r1.Ac a1.id a1.ttl).bind fun r15=>
(DS r1 r15.1 r15.2).bind fun r17=>
some (r17.1,r17.2)
else
if (a1.kind==3)=true then
(g75 r1.Ac a1.id).bind fun r20=>
(DS r1 r20.1 r20.2).bind fun r22=>
some (r22.1,r22.2)
else
if (a1.kind==4)=true then
(g467 r1 a1).bind fun r25=>
some (r25.1,r25.2)
else
some ((Ap.mk r1.Ac r1.Ad r1.Aj (a1.kind==5)),(Ak.mk 0 0))
noncomputable def Ui (a0:List Ai) (s:(List Ak)×Int×Int×Int×(List Aa)×(List Ag)×(List Int)×Bool):Option (((List Ak)×Int×Int×Int×(List Aa)×(List Ag)×(List Int)×Bool)⊕((List Ak)×Int×Int×(List Aa)×(List Ag)×(List Int)×Bool)):=
match s with
| (p16,p17,p18,p19,p20,p21,p22,p23)=>
if (decide (p17<(a0.length:Int)))=true then
(Cr a0 p17).bind fun y46=>
(rS (Ap.mk (As.mk p18 p19 p20) p21 p22 p23) y46).bind fun r48=>
if (p16.length+([r48.2]:List Ak).length)*16≤140737488355328 then
some (.inl ((p16++([r48.2]:List Ak)),(IntKind.i64.wrap (p17+1)),r48.1.Ac.clock,r48.1.Ac.next,r48.1.Ac.Af,r48.1.Ad,r48.1.Aj,r48.1.Am))
else none
else
some (.inr (p16,p18,p19,p20,p21,p22,p23))
noncomputable def DQ (a0:List Ai):Option (Ap×(List Ak)×Int):=
(g455 a0).bind fun r1=>
if (!r1)=true then
some ((Ap.mk (As.mk 0 0 ([]:List Aa)) ([]:List Ag) ([]:List Int) false),[],2)
else
if (decide ((a0.length:Int)>120))=true then
some ((Ap.mk (As.mk 0 0 ([]:List Aa)) ([]:List Ag) ([]:List Int) false),[],6)
else
(g456 a0 (fun z457_0=>rR z457_0)).bind fun r5=>
if (!r5)=true then
some ((Ap.mk (As.mk 0 0 ([]:List Aa)) ([]:List Ag) ([]:List Int) false),[],1)
else
(g458).bind fun r8=>
(By (Ui a0) ([],0,r8.Ac.clock,r8.Ac.next,r8.Ac.Af,r8.Ad,r8.Aj,r8.Am)).bind fun r51=>
(match r51 with
| (p38,p39,p40,p41,p42,p43,p44)=>
some ((Ap.mk (As.mk p39 p40 p41) p42 p43 p44),p38,0))
noncomputable def g91 (a0:List Int) (a1:Int):Option Int:=
if (decide ((IntKind.i64.wrap (a1-(a0.length:Int)))<0))=true then
some (-1)
else
some (IntKind.i64.wrap (a1-(a0.length:Int)))
noncomputable def g450 (a0:Ai) (a1:Int):Option Int:=
(g91 a0.Bi a1).bind fun r1=>
if (decide (r1<0))=true then
some (-1)
else
some r1
noncomputable def Uj (a0:List Ai) (s:Int×Int):Option ((Int×Int)⊕(Int⊕Int)):=
match s with
| (p8,p9)=>
if (decide (p9<(a0.length:Int)))=true then
(Cr a0 p9).bind fun y20=>
(g450 y20 p8).bind fun r22=>
if (decide (r22<0))=true then
some (.inr (.inr (-1)))
else
some (.inl (r22,(IntKind.i64.wrap (p9+1))))
else
some (.inr (.inl p8))
noncomputable def g443 (a0:List Ai) (a1:Int):Option Int:=
if (decide ((IntKind.i64.wrap (a1-(a0.length:Int)))<0))=true then
some (-1)
else
(By (Uj a0) ((IntKind.i64.wrap (a1-(a0.length:Int))),0)).bind fun r25=>
(match r25 with
| .inl p18=>
some p18
| .inr q=>some q)
noncomputable def aE (a0:List Int) (s:(List Int)×Int):Option (((List Int)×Int)⊕((List Int))):=
match s with
| (p10,p11)=>
if (decide (p11<(a0.length:Int)))=true then
(Cr a0 p11).bind fun y23=>
(Cr p10 p11).bind fun y25=>
(p10[p11.toNat]?).bind fun y27=>
some (.inl ((p10.set p11.toNat y23),(IntKind.i64.wrap (p11+1))))
else
some (.inr p10)
noncomputable def g43 (a0:List Int):Option (List Int):=
if 0≤(a0.length:Int) then
if (a0.length:Int)*8≤140737488355328 then
(By (aE a0) ((List.replicate (a0.length:Int).toNat 0),0)).bind fun r29=>
(match r29 with
| p21=>
some p21)
else none
else none
noncomputable def g451 (a0:Ai):Option Ai:=
(g43 a0.Bi).bind fun r1=>
some (Ai.mk a0.kind a0.id a0.ttl a0.Db a0.clock r1 a0.stop)
noncomputable def Uk (a0:List Ai) (s:(List Ai)×Int):Option (((List Ai)×Int)⊕((List Ai))):=
match s with
| (p14,p15)=>
if (decide (p15<(a0.length:Int)))=true then
(Cr a0 p15).bind fun y29=>
(g451 y29).bind fun r31=>
(Cr p14 p15).bind fun y33=>
(p14[p15.toNat]?).bind fun y35=>
some (.inl ((p14.set p15.toNat r31),(IntKind.i64.wrap (p15+1))))
else
some (.inr p14)
noncomputable def mO (a0:List Ai):Option (List Ai):=
if 0≤(a0.length:Int) then
if (a0.length:Int)*72≤140737488355328 then
Cd (List.replicate (a0.length:Int).toNat (Ai.mk 0 0 0 0 0 ([]:List Int) 0)) fun v3=>
(By (Uk a0) (v3,0)).bind fun r37=>
(match r37 with
| p27=>
some p27)
else none
else none
noncomputable def g452 (a0:Ak) (a1:Ak):Option Bool:=
if (a0.code_ != a1.code_)=true then
some false
else
if (a0.id != a1.id)=true then
some false
else
some true
noncomputable def Ul (a0:List Ak) (a1:List Ak) (s:Int):Option ((Int)⊕(Unit⊕Bool)):=
match s with
| p10=>
if (decide (p10<(a0.length:Int)))=true then
(Cr a0 p10).bind fun y21=>
(Cr a1 p10).bind fun y23=>
(g452 y21 y23).bind fun r25=>
if (!r25)=true then
some (.inr (.inr false))
else
some (.inl (IntKind.i64.wrap (p10+1)))
else
some (.inr (.inl ()))
noncomputable def rQ (a0:List Ak) (a1:List Ak):Option Bool:=
if ((a0.length:Int) != (a1.length:Int))=true then
some false
else
(By (Ul a0 a1) 0).bind fun r28=>
(match r28 with
| .inl ()=>
some true
| .inr q=>some q)
noncomputable def g453 (a0:Ai) (a1:Ai):Option Bool:=
if (a0.kind != a1.kind)=true then
some false
else
if (a0.id != a1.id)=true then
some false
else
if (a0.ttl != a1.ttl)=true then
some false
else
if (a0.Db != a1.Db)=true then
some false
else
if (a0.clock != a1.clock)=true then
some false
else
(g36 a0.Bi a1.Bi).bind fun r6=>
if (!r6)=true then
some false
else
if (a0.stop != a1.stop)=true then
some false
else
some true
noncomputable def Um (a0:List Ai) (a1:List Ai) (s:Int):Option ((Int)⊕(Unit⊕Bool)):=
match s with
| p10=>
if (decide (p10<(a0.length:Int)))=true then
(Cr a0 p10).bind fun y21=>
(Cr a1 p10).bind fun y23=>
(g453 y21 y23).bind fun r25=>
if (!r25)=true then
some (.inr (.inr false))
else
some (.inl (IntKind.i64.wrap (p10+1)))
else
some (.inr (.inl ()))
noncomputable def g446 (a0:List Ai) (a1:List Ai):Option Bool:=
if ((a0.length:Int) != (a1.length:Int))=true then
some false
else
(By (Um a0 a1) 0).bind fun r28=>
(match r28 with
| .inl ()=>
some true
| .inr q=>some q)
noncomputable def Re  (s:(List Ai)×Int×Int):Option (((List Ai)×Int×Int)⊕((List Ai)×Int)):=
match s with
| (p49,p50,p51)=>
if (decide (p51<(p49.length:Int)))=true then
(Cr p49 p51).bind fun y106=>
(p49[p51.toNat]?).bind fun y108=>
Cd (p49.set p51.toNat (Ai.mk p50 y108.id y108.ttl y108.Db y108.clock y108.Bi y108.stop)) fun v110=>
(Cr v110 p51).bind fun y112=>
(v110[p51.toNat]?).bind fun y114=>
Cd (v110.set p51.toNat (Ai.mk y114.kind (IntKind.i64.wrap (p50+1)) y114.ttl y114.Db y114.clock y114.Bi y114.stop)) fun v116=>
(Cr v116 p51).bind fun y118=>
(v116[p51.toNat]?).bind fun y120=>
Cd (v116.set p51.toNat (Ai.mk y120.kind y120.id (IntKind.i64.wrap ((IntKind.i64.wrap (p50+1))+1)) y120.Db y120.clock y120.Bi y120.stop)) fun v122=>
Cd (IntKind.i64.wrap ((IntKind.i64.wrap ((IntKind.i64.wrap (p50+1))+1))+1)) fun v124=>
(Cr v122 p51).bind fun y126=>
(v122[p51.toNat]?).bind fun y128=>
Cd (v122.set p51.toNat (Ai.mk y128.kind y128.id y128.ttl v124 y128.clock y128.Bi y128.stop)) fun v130=>
(Cr v130 p51).bind fun y132=>
(v130[p51.toNat]?).bind fun y134=>
Cd (v130.set p51.toNat (Ai.mk y134.kind y134.id y134.ttl y134.Db (IntKind.i64.wrap (v124+1)) y134.Bi y134.stop)) fun v136=>
(Cr v136 p51).bind fun y138=>
(v136[p51.toNat]?).bind fun y140=>
(g37 y140.Bi (IntKind.i64.wrap ((IntKind.i64.wrap (v124+1))+1))).bind fun r142=>
if r142.2.length=y140.Bi.length then
Cd (v136.set p51.toNat (Ai.mk y140.kind y140.id y140.ttl y140.Db y140.clock r142.2 y140.stop)) fun v145=>
(Cr v145 p51).bind fun y147=>
(v145[p51.toNat]?).bind fun y149=>
Cd (v145.set p51.toNat (Ai.mk y149.kind y149.id y149.ttl y149.Db y149.clock y149.Bi r142.1)) fun v151=>
some (.inl (v151,(IntKind.i64.wrap (r142.1+1)),(IntKind.i64.wrap (p51+1))))
else none
else
some (.inr (p49,p50))
noncomputable def g447 (a0:List Ai) (a1:Int):Option (Int×(List Ai)):=
(By (Re) (a0,a1,0)).bind fun r153=>
(match r153 with
| (p103,p104)=>
some (p104,p103))
noncomputable def Un  (s:(List Ak)×Int×Int):Option (((List Ak)×Int×Int)⊕((List Ak)×Int)):=
match s with
| (p12,p13,p14)=>
if (decide (p14<(p12.length:Int)))=true then
(Cr p12 p14).bind fun y32=>
(p12[p14.toNat]?).bind fun y34=>
(Cr (p12.set p14.toNat (Ak.mk p13 y34.id)) p14).bind fun y36=>
((p12.set p14.toNat (Ak.mk p13 y34.id))[p14.toNat]?).bind fun y38=>
Cd ((p12.set p14.toNat (Ak.mk p13 y34.id)).set p14.toNat (Ak.mk y38.code_ (IntKind.i64.wrap (p13+1)))) fun v40=>
some (.inl (v40,(IntKind.i64.wrap ((IntKind.i64.wrap (p13+1))+1)),(IntKind.i64.wrap (p14+1))))
else
some (.inr (p12,p13))
noncomputable def g448 (a0:List Ak) (a1:Int):Option (Int×(List Ak)):=
(By (Un) (a0,a1,0)).bind fun r42=>
(match r42 with
| (p29,p30)=>
some (p30,p29))
noncomputable def Rf (a0:List Ak) (s:Int×Int):Option ((Int×Int)⊕(Int⊕Int)):=
match s with
| (p8,p9)=>
if (decide (p9<(a0.length:Int)))=true then
(Cr a0 p9).bind fun y21=>
if (y21.code_ != p8)=true then
some (.inr (.inr (-1)))
else
(Cr a0 p9).bind fun y24=>
if (y24.id != (IntKind.i64.wrap (p8+1)))=true then
some (.inr (.inr (-1)))
else
some (.inl ((IntKind.i64.wrap ((IntKind.i64.wrap (p8+1))+1)),(IntKind.i64.wrap (p9+1))))
else
some (.inr (.inl p8))
noncomputable def DR (a0:List Ak) (a1:Int):Option Int:=
(By (Rf a0) (a1,0)).bind fun r27=>
(match r27 with
| .inl p19=>
some p19
| .inr q=>some q)
noncomputable def g436 (a0:List Ai):Option Bool:=
(g443 a0 1048576).bind fun r1=>
if (decide (r1<0))=true then
some true
else
(mO a0).bind fun r4=>
(g50 r4).bind fun r6=>
(mO a0).bind fun r8=>
(DQ r8).bind fun r10=>
(g49 r10.1 r6.1).bind fun r12=>
(if ((!r12)==false)=true then rQ r10.2.1 r6.2.1 else some default).bind fun r14=>
Cd ((bif (bif (!r12) then true else (!r14)) then true else (r10.2.2 != r6.2.2))) fun v16=>
if v16=true then
some false
else
(mO a0).bind fun r19=>
(g446 r8 r19).bind fun r21=>
if (!r21)=true then
some false
else
(g447 r8 1).bind fun r24=>
if r24.2.length=r8.length then
(if ((decide (r24.1<0))==false)=true then g49 r10.1 r6.1 else some default).bind fun r27=>
(if ((bif (decide (r24.1<0)) then true else (!r27))==false)=true then rQ r10.2.1 r6.2.1 else some default).bind fun r29=>
Cd ((bif (bif (bif (decide (r24.1<0)) then true else (!r27)) then true else (!r29)) then true else (r10.2.2 != r6.2.2))) fun v31=>
if v31=true then
some false
else
(mN r10.1 1).bind fun r34=>
if r34.2.1.length=r10.1.Ac.Af.length then
if r34.2.2.1.length=r10.1.Ad.length then
if r34.2.2.2.length=r10.1.Aj.length then
(g448 r10.2.1 r34.1).bind fun r39=>
if r39.2.length=r10.2.1.length then
(DM (Ap.mk (As.mk r10.1.Ac.clock r10.1.Ac.next r34.2.1) r34.2.2.1 r34.2.2.2 r10.1.Am) 1).bind fun r42=>
if (decide (r42<0))=true then
some false
else
(DR r39.2 r42).bind fun r45=>
if (decide (r45<0))=true then
some false
else
if (r45 != r39.1)=true then
some false
else
(mO a0).bind fun r49=>
(DQ r49).bind fun r51=>
(g49 r51.1 r6.1).bind fun r53=>
(if ((!r53)==false)=true then rQ r51.2.1 r6.2.1 else some default).bind fun r55=>
Cd ((bif (bif (!r53) then true else (!r55)) then true else (r51.2.2 != r6.2.2))) fun v57=>
if v57=true then
some false
else
(DM (Ap.mk (As.mk r10.1.Ac.clock r10.1.Ac.next r34.2.1) r34.2.2.1 r34.2.2.2 r10.1.Am) 1).bind fun r60=>
if (decide (r60<0))=true then
some false
else
(DR r39.2 r60).bind fun r63=>
if (decide (r63<0))=true then
some false
else
if (r63 != r39.1)=true then
some false
else
some true
else none
else none
else none
else none
else none
end Go.Ev
