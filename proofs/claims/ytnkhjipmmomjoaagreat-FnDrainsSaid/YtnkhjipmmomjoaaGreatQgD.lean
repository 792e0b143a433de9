/- Functions with the answers of the program's, written by a program of ours. -/
import Derived.Test.YtnkhjipmmomjoaaGreatQvG
set_option linter.all false
set_option maxHeartbeats 4000000
set_option linter.unusedVariables false
set_option maxRecDepth 100000
namespace Go.Ev
structure Aa where
  id:Int
  Bm:Int
  cap:Int
  Cj:Bool
  deriving Inhabited,DecidableEq
def BX (x:Aa):Prop:=Np x.id∧Np x.Bm∧Np x.cap∧aT x.Cj
def Ac (x:Aa):List V:=[.int .i64 x.id,.int .i64 x.Bm,.int .i64 x.cap,.bool x.Cj]
structure Ak where
  clock:Int
  next:Int
  Ae:List Aa
  deriving Inhabited,DecidableEq
def BY (x:Ak):Prop:=Np x.clock∧Np x.next∧(okL BX) x.Ae
def Bd (x:Ak):List V:=[.int .i64 x.clock,.int .i64 x.next,.lst 4 (x.Ae.map Ac)]
structure Ah where
  As:Int
  Md:Bool
  deriving Inhabited,DecidableEq
def qX (x:Ah):Prop:=Np x.As∧aT x.Md
def Bx (x:Ah):List V:=[.int .i64 x.As,.bool x.Md]
structure Aj where
  Ad:Ak
  Ab:List Ah
  Ai:List Int
  Al:Bool
  deriving Inhabited,DecidableEq
def BZ (x:Aj):Prop:=BY x.Ad∧(okL qX) x.Ab∧(okL Np) x.Ai∧aT x.Al
def Be (x:Aj):List V:=[.int .i64 x.Ad.clock,.int .i64 x.Ad.next,.lst 4 (x.Ad.Ae.map Ac),.lst 2 (x.Ab.map Bx),.lst 1 (x.Ai.map eI),.bool x.Al]
structure Am where
  kind:Int
  id:Int
  ttl:Int
  Ef:Int
  clock:Int
  Cb:List Int
  stop:Int
  deriving Inhabited,DecidableEq
def jE (x:Am):Prop:=Np x.kind∧Np x.id∧Np x.ttl∧Np x.Ef∧Np x.clock∧(okL Np) x.Cb∧Np x.stop
def Ar (x:Am):List V:=[.int .i64 x.kind,.int .i64 x.id,.int .i64 x.ttl,.int .i64 x.Ef,.int .i64 x.clock,.lst 1 (x.Cb.map eI),.int .i64 x.stop]
structure Ao where
  code_:Int
  id:Int
  deriving Inhabited,DecidableEq
def EF (x:Ao):Prop:=Np x.code_∧Np x.id
def Bg (x:Ao):List V:=[.int .i64 x.code_,.int .i64 x.id]
structure By where
  code_:List UInt8
  at_:Int
  Fl:Int
  deriving Inhabited,DecidableEq
def okDl00Src (x:By):Prop:=(okL aT) x.code_∧Np x.at_∧Np x.Fl
def Bp (x:By):List V:=[.lst 1 (x.code_.map eU8),.int .i64 x.at_,.int .i64 x.Fl]
structure Cu where
  v:Aj
  a:Am
  Gs:Int
  deriving Inhabited,DecidableEq
def okDrunner (x:Cu):Prop:=BZ x.v∧jE x.a∧Np x.Gs
def iF (x:Cu):List V:=[.int .i64 x.v.Ad.clock,.int .i64 x.v.Ad.next,.lst 4 (x.v.Ad.Ae.map Ac),.lst 2 (x.v.Ab.map Bx),.lst 1 (x.v.Ai.map eI),.bool x.v.Al,.int .i64 x.a.kind,.int .i64 x.a.id,.int .i64 x.a.ttl,.int .i64 x.a.Ef,.int .i64 x.a.clock,.lst 1 (x.a.Cb.map eI),.int .i64 x.a.stop,.int .i64 x.Gs]
noncomputable def oF (a0:Int) (a1:Int) (a2:Int):Option Bool:=
some (bif (decide (a0≥a1)) then (decide (a0≤a2)) else false)
noncomputable def Qi (a0:Am) (s:Int):Option ((Int)⊕(Unit⊕Bool)):=
match s with
| p10=>
if (decide (p10<(a0.Cb.length:Int)))=true then
(Co a0.Cb p10).bind fun y19=>
(oF y19 0 2).bind fun r21=>
if (!r21)=true then
some (.inr (.inr false))
else
some (.inl (IntKind.i64.wrap (p10+1)))
else
some (.inr (.inl ()))
noncomputable def g100 (a0:Am):Option Bool:=
(if ((decide ((a0.Cb.length:Int)>4096))==false)=true then oF a0.stop 0 2 else some default).bind fun r1=>
if (bif (decide ((a0.Cb.length:Int)>4096)) then true else (!r1))=true then
some false
else
(Bz (Qi a0) 0).bind fun r24=>
(match r24 with
| .inl ()=>
some true
| .inr q=>some q)
noncomputable def fG (a0:Ak) (a1:Int) (s:Int):Option ((Int)⊕(Unit⊕Int)):=
match s with
| p5=>
if (decide (p5<(a0.Ae.length:Int)))=true then
(Co a0.Ae p5).bind fun y12=>
if (y12.id==a1)=true then
some (.inr (.inr p5))
else
some (.inl (IntKind.i64.wrap (p5+1)))
else
some (.inr (.inl ()))
noncomputable def EE (a0:Ak) (a1:Int):Option Int:=
(Bz (fG a0 a1) 0).bind fun r15=>
(match r15 with
| .inl ()=>
some (-1)
| .inr q=>some q)
noncomputable def iH (a0:Ak):Option Ak:=
if (([]:List Aa).length+a0.Ae.length)*32≤140737488355328 then
some (Ak.mk a0.clock a0.next (([]:List Aa)++a0.Ae))
else none
noncomputable def g74 (a0:Ak) (a1:Int):Option (Ak×Int):=
(EE a0 a1).bind fun r1=>
if (decide (r1<0))=true then
some (a0,5)
else
(iH a0).bind fun r4=>
(Co r4.Ae r1).bind fun y6=>
(r4.Ae[r1.toNat]?).bind fun y8=>
some ((Ak.mk r4.clock r4.next (r4.Ae.set r1.toNat (Aa.mk y8.id y8.Bm y8.cap true))),0)
noncomputable def g53 (a0:Int) (a1:Int):Option Int:=
if (decide (a0>(IntKind.i64.wrap (9223372036854775807-a1))))=true then
some 9223372036854775807
else
some (IntKind.i64.wrap (a0+a1))
noncomputable def g79 (a0:Ak) (a1:Int) (a2:Int):Option (Ak×Int):=
(EE a0 a1).bind fun r1=>
if (decide (a2<1))=true then
some (a0,4)
else
if (decide (r1<0))=true then
some (a0,5)
else
(Co a0.Ae r1).bind fun y5=>
if y5.Cj=true then
some (a0,13)
else
(iH a0).bind fun r8=>
(Co r8.Ae r1).bind fun y10=>
(r8.Ae[r1.toNat]?).bind fun y12=>
(g53 a0.clock a2).bind fun r14=>
some ((Ak.mk r8.clock r8.next (r8.Ae.set r1.toNat (Aa.mk y12.id (if r14<y12.cap then r14 else y12.cap) y12.cap y12.Cj))),0)
noncomputable def Vk (p103:Int) (p132:Int):Option ((Int×Int)⊕(Int)):=
some (.inl (p132,(IntKind.i64.wrap (p103+1))))
noncomputable def Zq (a0:Ak) (a1:Int) (p45:List Aa) (s:Int×Int):Option ((Int×Int)⊕(Int)):=
match s with
| (p102,p103)=>
if (decide (p103<(p45.length:Int)))=true then
(Co p45 p103).bind fun y134=>
(p45[p103.toNat]?).bind fun y136=>
(if (((bif (!y136.Cj) then (decide (y136.Bm≤(if a1>a0.clock then a1 else a0.clock))) else false)==true)&&((decide (p102<0))==false))=true then Co p45 p102 else some default).bind fun y138=>
(if (((bif (!y136.Cj) then (decide (y136.Bm≤(if a1>a0.clock then a1 else a0.clock))) else false)==true)&&((decide (p102<0))==false))=true then p45[p102.toNat]? else some default).bind fun y140=>
Bs ((bif (bif (!y136.Cj) then (decide (y136.Bm≤(if a1>a0.clock then a1 else a0.clock))) else false) then (bif (decide (p102<0)) then true else (decide (y136.Bm<y140.Bm))) else false)) fun v142=>
if v142=true then
Vk p103 p103
else
Vk p103 p102
else
some (.inr p102)
noncomputable def fD (a0:Ak) (a1:Int) (r1:Ak) (s:(List Int)×(List Aa)):Option (((List Int)×(List Aa))⊕(Ak×(List Int))):=
match s with
| (p44,p45)=>
(Bz (Zq a0 a1 p45) ((-1),0)).bind fun r145=>
(match r145 with
| p119=>
if (decide (p119<0))=true then
some (.inr ((Ak.mk (if a1>a0.clock then a1 else a0.clock) r1.next p45),p44))
else
(Co p45 p119).bind fun y148=>
(p45[p119.toNat]?).bind fun y150=>
(Co (p45.set p119.toNat (Aa.mk y150.id y150.Bm y150.cap true)) p119).bind fun y152=>
((p45.set p119.toNat (Aa.mk y150.id y150.Bm y150.cap true))[p119.toNat]?).bind fun y154=>
if (p44.length+([y154.id]:List Int).length)*8≤140737488355328 then
some (.inl ((p44++([y154.id]:List Int)),(p45.set p119.toNat (Aa.mk y150.id y150.Bm y150.cap true))))
else none)
noncomputable def g81 (a0:Ak) (a1:Int):Option (Ak×(List Int)):=
(iH a0).bind fun r1=>
(Bz (fD a0 a1 r1) (([]:List Int),r1.Ae)).bind fun r157=>
(match r157 with
| q=>some q)
noncomputable def Zl (a0:Aj):Option Aj:=
(iH a0.Ad).bind fun r1=>
if (([]:List Ah).length+a0.Ab.length)*16≤140737488355328 then
if (([]:List Int).length+a0.Ai.length)*8≤140737488355328 then
some (Aj.mk r1 (([]:List Ah)++a0.Ab) (([]:List Int)++a0.Ai) a0.Al)
else none
else none
noncomputable def g70 (a0:Ak) (a1:Int) (a2:Int):Option (Ak×Int×Int):=
if (bif (decide (a1<1)) then true else (decide (a2<a1)))=true then
some (a0,0,4)
else
if (a0.clock==9223372036854775807)=true then
some (a0,0,11)
else
Bs ((bif ((a0.Ae.length:Int)==40) then true else (a0.next==1000000))) fun v3=>
if v3=true then
some (a0,0,9)
else
(iH a0).bind fun r6=>
(g53 a0.clock a1).bind fun r8=>
(g53 a0.clock a2).bind fun r10=>
if (r6.Ae.length+([(Aa.mk a0.next r8 r10 false)]:List Aa).length)*32≤140737488355328 then
some ((Ak.mk r6.clock (IntKind.i64.wrap (r6.next+1)) (r6.Ae++([(Aa.mk a0.next r8 r10 false)]:List Aa))),a0.next,0)
else none
noncomputable def Vl (a0:List Int) (a1:Int) (s:(List Int)×Int):Option (((List Int)×Int)⊕((List Int))):=
match s with
| (p10,p11)=>
(if ((decide (p11<(a0.length:Int)))==true)=true then Co a0 p11 else some default).bind fun y23=>
Bs ((bif (decide (p11<(a0.length:Int))) then (decide (y23<a1)) else false)) fun v25=>
if v25=true then
(Co a0 p11).bind fun y28=>
if (p10.length+([y28]:List Int).length)*8≤140737488355328 then
some (.inl ((p10++([y28]:List Int)),(IntKind.i64.wrap (p11+1))))
else none
else
some (.inr p10)
noncomputable def Zt (a0:List Int) (a3:Int) (p35:List Int) (p41:Int):Option ((List Int)×Int):=
(bQ a0 p41 (a0.length:Int)).bind fun s42=>
if (p35.length+s42.length)*8≤140737488355328 then
if (a3==2)=true then
some (p35++s42,15)
else
some (p35++s42,0)
else none
noncomputable def Zs (a0:List Int) (a1:Int) (a3:Int) (p22:List Int) (p35:List Int):Option ((List Int)×Int):=
(if ((decide ((p22.length:Int)<(a0.length:Int)))==true)=true then Co a0 (p22.length:Int) else some default).bind fun y36=>
Bs ((bif (decide ((p22.length:Int)<(a0.length:Int))) then (y36==a1) else false)) fun v38=>
if v38=true then
Zt a0 a3 p35 (IntKind.i64.wrap ((p22.length:Int)+1))
else
Zt a0 a3 p35 (p22.length:Int)
noncomputable def g86 (a0:List Int) (a1:Int) (a2:Bool) (a3:Int):Option ((List Int)×Int):=
if (a3==1)=true then
some (a0,13)
else
(Bz (Vl a0 a1) (([]:List Int),0)).bind fun r31=>
(match r31 with
| p22=>
if a2=true then
if (p22.length+([a1]:List Int).length)*8≤140737488355328 then
Zs a0 a1 a3 p22 (p22++([a1]:List Int))
else none
else
Zs a0 a1 a3 p22 p22)
noncomputable def Ql  (s:Int×(List Ah)):Option ((Int×(List Ah))⊕((List Ah))):=
match s with
| (p8,p9)=>
if (decide (p8<(p9.length:Int)))=true then
(Co p9 p8).bind fun y19=>
(p9[p8.toNat]?).bind fun y21=>
some (.inl ((IntKind.i64.wrap (p8+1)),(p9.set p8.toNat (Ah.mk y21.As true))))
else
some (.inr p9)
noncomputable def eH (a0:Aj):Option Aj:=
(Zl a0).bind fun r1=>
(Bz (Ql) (0,r1.Ab)).bind fun r23=>
(match r23 with
| p17=>
some (Aj.mk r1.Ad p17 r1.Ai true))
noncomputable def lA (a0:Am) (a1:Int):Option Int:=
if (decide (a1<(a0.Cb.length:Int)))=true then
(Co a0.Cb a1).bind fun y2=>
some y2
else
some 0
noncomputable def Kc (a0:Aj) (a1:Am) (r1:Ak×Int×Int) (p4:Int):Option (Aj×Ao):=
if (p4 != 0)=true then
some (a0,(Ao.mk p4 0))
else
(Zl a0).bind fun r6=>
if (r6.Ab.length+([(Ah.mk r1.2.1 false)]:List Ah).length)*16≤140737488355328 then
if (a1.stop==1)=true then
(eH (Aj.mk (Ak.mk r6.Ad.clock r1.1.next r6.Ad.Ae) (r6.Ab++([(Ah.mk r1.2.1 false)]:List Ah)) r6.Ai r6.Al)).bind fun r10=>
some (r10,(Ao.mk 15 0))
else
(lA a1 0).bind fun r12=>
(g86 r6.Ai r1.2.1 true r12).bind fun r14=>
if (a1.stop==2)=true then
(eH (Aj.mk (Ak.mk r6.Ad.clock r1.1.next r6.Ad.Ae) (r6.Ab++([(Ah.mk r1.2.1 false)]:List Ah)) r14.1 r6.Al)).bind fun r17=>
some (r17,(Ao.mk 15 0))
else
if (r14.2 != 0)=true then
(Co (r6.Ab++([(Ah.mk r1.2.1 false)]:List Ah)) (IntKind.i64.wrap (((r6.Ab++([(Ah.mk r1.2.1 false)]:List Ah)).length:Int)-1))).bind fun y20=>
((r6.Ab++([(Ah.mk r1.2.1 false)]:List Ah))[(IntKind.i64.wrap (((r6.Ab++([(Ah.mk r1.2.1 false)]:List Ah)).length:Int)-1)).toNat]?).bind fun y22=>
some ((Aj.mk (Ak.mk r6.Ad.clock r1.1.next r6.Ad.Ae) ((r6.Ab++([(Ah.mk r1.2.1 false)]:List Ah)).set ((IntKind.i64.wrap (((r6.Ab++([(Ah.mk r1.2.1 false)]:List Ah)).length:Int)-1)).toNat) (Ah.mk y22.As true)) r14.1 r6.Al),(Ao.mk r14.2 0))
else
(bQ (r6.Ab++([(Ah.mk r1.2.1 false)]:List Ah)) 0 (IntKind.i64.wrap (((r6.Ab++([(Ah.mk r1.2.1 false)]:List Ah)).length:Int)-1))).bind fun s24=>
some ((Aj.mk r1.1 s24 r14.1 r6.Al),(Ao.mk 0 r1.2.1))
else none
noncomputable def g132 (a0:Aj) (a1:Am):Option (Aj×Ao):=
(g70 a0.Ad a1.ttl a1.Ef).bind fun r1=>
if (bif (r1.2.2==0) then ((a0.Ab.length:Int)==40) else false)=true then
Kc a0 a1 r1 9
else
Kc a0 a1 r1 r1.2.2
noncomputable def g76 (a0:Ak) (a1:Int):Option (Ak×Int):=
(EE a0 a1).bind fun r1=>
if (decide (r1<0))=true then
some (a0,5)
else
(Co a0.Ae r1).bind fun y4=>
if (!y4.Cj)=true then
some (a0,13)
else
(bQ a0.Ae 0 r1).bind fun s7=>
(bQ a0.Ae (IntKind.i64.wrap (r1+1)) (a0.Ae.length:Int)).bind fun s9=>
if (([]:List Aa).length+s7.length)*32≤140737488355328 then
if ((([]:List Aa)++s7).length+s9.length)*32≤140737488355328 then
some ((Ak.mk a0.clock a0.next ((([]:List Aa)++s7)++s9)),0)
else none
else none
noncomputable def Xq (p10:Int) (p29:List Ah):Option (((List Ah)×Int)⊕((List Ah))):=
some (.inl (p29,(IntKind.i64.wrap (p10+1))))
noncomputable def Qq (a0:List Ah) (a1:Int) (s:(List Ah)×Int):Option (((List Ah)×Int)⊕((List Ah))):=
match s with
| (p9,p10)=>
if (decide (p10<(a0.length:Int)))=true then
(Co a0 p10).bind fun y31=>
if (y31.As != a1)=true then
(Co a0 p10).bind fun y34=>
if (p9.length+([y34]:List Ah).length)*16≤140737488355328 then
Xq p10 (p9++([y34]:List Ah))
else none
else
Xq p10 p9
else
some (.inr p9)
noncomputable def g146 (a0:List Ah) (a1:Int):Option (List Ah):=
(Bz (Qq a0 a1) (([]:List Ah),0)).bind fun r37=>
(match r37 with
| p21=>
some p21)
noncomputable def Tc (p28:Int) (p87:Int) (p88:Int) (p89:Int) (p90:List Aa) (p91:List Int):Option ((Int×Int×Int×Int×(List Aa)×(List Int))⊕((Int×Int×Int×(List Aa)×(List Int))⊕Aj)):=
some (.inl (p87,(IntKind.i64.wrap (p28+1)),p88,p89,p90,p91))
noncomputable def Qm (a1:Am) (r1:Aj) (p27:Int) (p28:Int) (r100:(List Int)×Int) (p105:Int) (p106:Int) (p107:List Aa):Option ((Int×Int×Int×Int×(List Aa)×(List Int))⊕((Int×Int×Int×(List Aa)×(List Int))⊕Aj)):=
if (a1.stop==2)=true then
(eH (Aj.mk (Ak.mk p105 p106 p107) r1.Ab r100.1 r1.Al)).bind fun r109=>
some (.inr (.inr r109))
else
Tc p28 (IntKind.i64.wrap (p27+1)) p105 p106 p107 r100.1
noncomputable def Ln (a0:Aj) (a1:Am) (r1:Aj) (s:Int×Int×Int×Int×(List Aa)×(List Int)):Option ((Int×Int×Int×Int×(List Aa)×(List Int))⊕((Int×Int×Int×(List Aa)×(List Int))⊕Aj)):=
match s with
| (p27,p28,p29,p30,p31,p32)=>
if (decide (p28<(a0.Ad.Ae.length:Int)))=true then
(Co a0.Ad.Ae p28).bind fun y93=>
(Co a0.Ad.Ae p28).bind fun y95=>
if (!y95.Cj)=true then
Tc p28 p27 p29 p30 p31 p32
else
(lA a1 p27).bind fun r98=>
(g86 p32 y93.id false r98).bind fun r100=>
if (r100.2==0)=true then
(g76 (Ak.mk p29 p30 p31) y93.id).bind fun r113=>
Qm a1 r1 p27 p28 r100 r113.1.clock r113.1.next r113.1.Ae
else
Qm a1 r1 p27 p28 r100 p29 p30 p31
else
some (.inr (.inl (p27,p29,p30,p31,p32)))
noncomputable def Td (p140:Int) (p190:Int) (p191:List Ah) (p192:List Int):Option ((Int×Int×(List Ah)×(List Int))⊕(((List Ah)×(List Int))⊕Aj)):=
some (.inl (p190,(IntKind.i64.wrap (p140+1)),p191,p192))
noncomputable def Qn (a1:Am) (r1:Aj) (p64:Int) (p65:Int) (p66:List Aa) (p139:Int) (p140:Int) (r201:(List Int)×Int) (p208:List Ah):Option ((Int×Int×(List Ah)×(List Int))⊕(((List Ah)×(List Int))⊕Aj)):=
if (a1.stop==2)=true then
(eH (Aj.mk (Ak.mk p64 p65 p66) p208 r201.1 r1.Al)).bind fun r210=>
some (.inr (.inr r210))
else
Td p140 (IntKind.i64.wrap (p139+1)) p208 r201.1
noncomputable def Jj (a0:Aj) (a1:Am) (r1:Aj) (p64:Int) (p65:Int) (p66:List Aa) (s:Int×Int×(List Ah)×(List Int)):Option ((Int×Int×(List Ah)×(List Int))⊕(((List Ah)×(List Int))⊕Aj)):=
match s with
| (p139,p140,p141,p142)=>
if (decide (p140<(a0.Ab.length:Int)))=true then
(Co a0.Ab p140).bind fun y194=>
if (!y194.Md)=true then
Td p140 p139 p141 p142
else
(Co a0.Ab p140).bind fun y197=>
(lA a1 p139).bind fun r199=>
(g86 p142 y197.As false r199).bind fun r201=>
if (r201.2==0)=true then
(Co a0.Ab p140).bind fun y214=>
(g146 p141 y214.As).bind fun r216=>
Qn a1 r1 p64 p65 p66 p139 p140 r201 r216
else
Qn a1 r1 p64 p65 p66 p139 p140 r201 p141
else
some (.inr (.inl (p141,p142)))
noncomputable def kW (a0:Aj) (a1:Am):Option Aj:=
(Zl a0).bind fun r1=>
(Bz (Ln a0 a1 r1) (0,0,r1.Ad.clock,r1.Ad.next,r1.Ad.Ae,r1.Ai)).bind fun r115=>
(match r115 with
| .inl (p63,p64,p65,p66,p67)=>
(Bz (Jj a0 a1 r1 p64 p65 p66) (p63,0,r1.Ab,p67)).bind fun r218=>
(match r218 with
| .inl (p169,p170)=>
some (Aj.mk (Ak.mk p64 p65 p66) p169 p170 r1.Al)
| .inr q=>some q)
| .inr q=>some q)
noncomputable def Hr (a0:Aj) (p27:Int) (p28:Int) (p29:Int) (p30:List Aa) (p31:List Ah) (p32:List Int) (p33:Bool):Option (Aj×Ao):=
if (p27 != 0)=true then
some (a0,(Ao.mk p27 0))
else
some ((Aj.mk (Ak.mk p28 p29 p30) p31 p32 p33),(Ao.mk 0 0))
noncomputable def zY (a0:Aj) (a1:Am):Option (Aj×Ao):=
(oF a1.kind 1 6).bind fun r1=>
if (!r1)=true then
some (a0,(Ao.mk 16 0))
else
if (bif a0.Al then (a1.kind != 6) else false)=true then
some (a0,(Ao.mk 14 0))
else
(Zl a0).bind fun r5=>
if (a1.kind==1)=true then
(g132 a0 a1).bind fun r37=>
some (r37.1,r37.2)
else
if (a1.kind==2)=true then
(g79 a0.Ad a1.id a1.ttl).bind fun r40=>
Hr a0 r40.2 r40.1.clock r40.1.next r40.1.Ae r5.Ab r5.Ai r5.Al
else
if (a1.kind==3)=true then
(g74 a0.Ad a1.id).bind fun r43=>
Hr a0 r43.2 r43.1.clock r43.1.next r43.1.Ae r5.Ab r5.Ai r5.Al
else
if (a1.kind==4)=true then
(g81 a0.Ad a1.clock).bind fun r46=>
if (a1.stop==1)=true then
(eH (Aj.mk r46.1 r5.Ab r5.Ai r5.Al)).bind fun r49=>
some (r49,(Ao.mk 15 0))
else
(kW (Aj.mk r46.1 r5.Ab r5.Ai r5.Al) a1).bind fun r51=>
if (bif r51.Al then (!r5.Al) else false)=true then
some (r51,(Ao.mk 15 0))
else
Hr a0 0 r51.Ad.clock r51.Ad.next r51.Ad.Ae r51.Ab r51.Ai r51.Al
else
if (a1.kind==5)=true then
Hr a0 0 r5.Ad.clock r5.Ad.next r5.Ad.Ae r5.Ab r5.Ai true
else
if (a1.kind==6)=true then
Hr a0 0 r5.Ad.clock r5.Ad.next r5.Ad.Ae r5.Ab r5.Ai false
else
Hr a0 0 r5.Ad.clock r5.Ad.next r5.Ad.Ae r5.Ab r5.Ai r5.Al
noncomputable def eY (a0:List Am) (s:(List Ao)×Int×Int×Int×(List Aa)×(List Ah)×(List Int)×Bool):Option (((List Ao)×Int×Int×Int×(List Aa)×(List Ah)×(List Int)×Bool)⊕(((List Ao)×Int×Int×(List Aa)×(List Ah)×(List Int)×Bool)⊕(Aj×(List Ao)×Int))):=
match s with
| (p15,p16,p17,p18,p19,p20,p21,p22)=>
if (decide (p16<(a0.length:Int)))=true then
(Co a0 p16).bind fun y51=>
(g100 y51).bind fun r53=>
if (!r53)=true then
some (.inr (.inr ((Aj.mk (Ak.mk 0 0 ([]:List Aa)) ([]:List Ah) ([]:List Int) false),([]:List Ao),1)))
else
(Co a0 p16).bind fun y56=>
(zY (Aj.mk (Ak.mk p17 p18 p19) p20 p21 p22) y56).bind fun r58=>
if (p15.length+([r58.2]:List Ao).length)*16≤140737488355328 then
some (.inl ((p15++([r58.2]:List Ao)),(IntKind.i64.wrap (p16+1)),r58.1.Ad.clock,r58.1.Ad.next,r58.1.Ad.Ae,r58.1.Ab,r58.1.Ai,r58.1.Al))
else none
else
some (.inr (.inl (p15,p17,p18,p19,p20,p21,p22)))
noncomputable def g50 (a0:List Am):Option (Aj×(List Ao)×Int):=
if (decide ((a0.length:Int)>4096))=true then
some ((Aj.mk (Ak.mk 0 0 ([]:List Aa)) ([]:List Ah) ([]:List Int) false),([]:List Ao),2)
else
if (decide ((a0.length:Int)>120))=true then
some ((Aj.mk (Ak.mk 0 0 ([]:List Aa)) ([]:List Ah) ([]:List Int) false),([]:List Ao),6)
else
(Bz (eY a0) (([]:List Ao),0,0,1,([]:List Aa),([]:List Ah),([]:List Int),false)).bind fun r62=>
(match r62 with
| .inl (p43,p44,p45,p46,p47,p48,p49)=>
(Zl (Aj.mk (Ak.mk p44 p45 p46) p47 p48 p49)).bind fun r64=>
some (r64,p43,0)
| .inr q=>some q)
noncomputable def g83 (a0:List UInt8):Option By:=
some (By.mk a0 0 (((a0.length:Int)).tmod 1000))
noncomputable def kZ (a0:By):Option (Int×By):=
if (decide ((IntKind.i64.wrap (a0.at_+1))≤(a0.code_.length:Int)))=true then
(Co a0.code_ (IntKind.i64.wrap ((IntKind.i64.wrap (a0.at_+1))-1))).bind fun y2=>
Bs (((IntKind.i64.wrap ((IntKind.i64.wrap ((IntKind.i64.wrap (a0.Fl*31))+(IntKind.i64.wrap ((y2).toNat:Int))))+7))).tmod 2147483648) fun v4=>
(Co a0.code_ (IntKind.i64.wrap ((IntKind.i64.wrap (a0.at_+1))-1))).bind fun y6=>
some (IntKind.i64.wrap ((y6).toNat:Int),(By.mk a0.code_ (IntKind.i64.wrap (a0.at_+1)) v4))
else
if (decide ((IntKind.i64.wrap (a0.at_+1))>3000))=true then
some (0,(By.mk a0.code_ (IntKind.i64.wrap (a0.at_+1)) a0.Fl))
else
Bs (((IntKind.i64.wrap ((IntKind.i64.wrap (a0.Fl*1103515245))+12345))).tmod 2147483648) fun v9=>
some (((IntKind.i64.wrap ((v9).tdiv 65536))).tmod 256,(By.mk a0.code_ (IntKind.i64.wrap (a0.at_+1)) v9))
noncomputable def Rf (a0:By) (a1:Int):Option (Int×By):=
if (decide (a1≤1))=true then
some (0,a0)
else
if (decide (a1≤256))=true then
(kZ a0).bind fun r3=>
if a1≠0 then
some ((r3.1).tmod a1,r3.2)
else none
else
(kZ a0).bind fun r6=>
(kZ r6.2).bind fun r8=>
(kZ r8.2).bind fun r10=>
if a1≠0 then
Bs (((IntKind.i64.wrap ((IntKind.i64.wrap ((IntKind.i64.wrap (r6.1*65536))+(IntKind.i64.wrap (r8.1*256))))+r10.1))).tmod a1) fun v13=>
some (v13,r10.2)
else none
noncomputable def g118 (a0:By) (a1:Int):Option Int:=
Bs (if a1<(IntKind.i64.wrap (1+(IntKind.i64.wrap (((a0.code_.length:Int)).tdiv 12)))) then a1 else (IntKind.i64.wrap (1+(IntKind.i64.wrap (((a0.code_.length:Int)).tdiv 12))))) fun v1=>
some v1
noncomputable def g119 (a0:By) (a1:Int):Option (Bool×By):=
(Rf a0 a1).bind fun r1=>
some ((r1.1==(IntKind.i64.wrap (a1-1))),r1.2)
noncomputable def Xr  (s:(List Int)×Int×(List UInt8)×Int×Int):Option (((List Int)×Int×(List UInt8)×Int×Int)⊕((List Int)×(List UInt8)×Int×Int)):=
match s with
| (p7,p8,p9,p10,p11)=>
if (decide (p8>0))=true then
(Rf (By.mk p9 p10 p11) 5).bind fun r26=>
if (p7.length+([(r26.1).tmod 3]:List Int).length)*8≤140737488355328 then
some (.inl ((p7++([(r26.1).tmod 3]:List Int)),(IntKind.i64.wrap (p8-1)),r26.2.code_,r26.2.at_,r26.2.Fl))
else none
else
some (.inr (p7,p9,p10,p11))
noncomputable def AG (a0:By):Option ((List Int)×By):=
(Rf a0 4).bind fun r1=>
(Bz (Xr) (([]:List Int),r1.1,r1.2.code_,r1.2.at_,r1.2.Fl)).bind fun r29=>
(match r29 with
| (p21,p22,p23,p24)=>
some (p21,(By.mk p22 p23 p24)))
noncomputable def Xo (p32:Int) (p33:Int) (p34:Int) (p35:Int) (p36:Int) (p37:List Int) (p46:Int) (p47:List UInt8) (p48:Int) (p49:Int):Option (Am×By):=
some ((Am.mk p32 p33 p34 p35 p36 p37 p46),(By.mk p47 p48 p49))
noncomputable def Lo (p32:Int) (p33:Int) (p34:Int) (p35:Int) (p36:Int) (p37:List Int) (p38:List UInt8) (p39:Int) (p40:Int):Option (Am×By):=
(g119 (By.mk p38 p39 p40) 7).bind fun r41=>
if r41.1=true then
(Rf r41.2 2).bind fun r52=>
Xo p32 p33 p34 p35 p36 p37 (IntKind.i64.wrap (1+r52.1)) r52.2.code_ r52.2.at_ r52.2.Fl
else
Xo p32 p33 p34 p35 p36 p37 0 r41.2.code_ r41.2.at_ r41.2.Fl
noncomputable def Qo (r1:Int×By) (r3:(List Int)×By) (r5:Int×By) (r7:Int×By) (p65:Bool):Option (Am×By):=
if p65=true then
(Rf r7.2 60).bind fun r67=>
(AG r67.2).bind fun r69=>
Lo 4 0 0 0 r67.1 r69.1 r69.2.code_ r69.2.at_ r69.2.Fl
else
if (r7.1==5)=true then
(Rf r7.2 4).bind fun r72=>
(Co ([5,6,6,6]:List Int) r72.1).bind fun y74=>
(([5,6,6,6]:List Int)[r72.1.toNat]?).bind fun y76=>
Lo y76 0 0 0 0 ([]:List Int) r72.2.code_ r72.2.at_ r72.2.Fl
else
Lo 1 0 (IntKind.i64.wrap (1+r1.1)) (IntKind.i64.wrap ((IntKind.i64.wrap (1+r1.1))+r5.1)) 0 r3.1 r7.2.code_ r7.2.at_ r7.2.Fl
noncomputable def g135 (a0:By):Option (Am×By):=
(Rf a0 9).bind fun r1=>
(AG r1.2).bind fun r3=>
(Rf r3.2 9).bind fun r5=>
(Rf r5.2 10).bind fun r7=>
if (r7.1==0)=true then
(Rf r7.2 9).bind fun r56=>
(Rf r56.2 12).bind fun r58=>
Lo 2 (IntKind.i64.wrap (1+r56.1)) (IntKind.i64.wrap (1+r58.1)) 0 0 ([]:List Int) r58.2.code_ r58.2.at_ r58.2.Fl
else
if (r7.1==1)=true then
(Rf r7.2 9).bind fun r61=>
Lo 3 (IntKind.i64.wrap (1+r61.1)) 0 0 0 ([]:List Int) r61.2.code_ r61.2.at_ r61.2.Fl
else
if (r7.1==2)=true then
Qo r1 r3 r5 r7 (r7.1==2)
else
if (r7.1==3)=true then
Qo r1 r3 r5 r7 (r7.1==3)
else
Qo r1 r3 r5 r7 (r7.1==4)
noncomputable def Xj (p16:Int) (p45:List Am) (p46:List UInt8) (p47:Int) (p48:Int):Option (((List Am)×Int×(List UInt8)×Int×Int)⊕((List Am)×(List UInt8)×Int×Int)):=
some (.inl (p45,(IntKind.i64.wrap (p16-1)),p46,p47,p48))
noncomputable def Xk  (s:(List Am)×Int×(List UInt8)×Int×Int):Option (((List Am)×Int×(List UInt8)×Int×Int)⊕((List Am)×(List UInt8)×Int×Int)):=
match s with
| (p15,p16,p17,p18,p19)=>
if (decide (p16>0))=true then
(g135 (By.mk p17 p18 p19)).bind fun r50=>
if (p15.length+([r50.1]:List Am).length)*72≤140737488355328 then
if (bif (r50.1.stop != 0) then true else (r50.1.kind==5))=true then
if ((p15++([r50.1]:List Am)).length+([(Am.mk 6 0 0 0 0 ([]:List Int) 0)]:List Am).length)*72≤140737488355328 then
Xj p16 ((p15++([r50.1]:List Am))++([(Am.mk 6 0 0 0 0 ([]:List Int) 0)]:List Am)) r50.2.code_ r50.2.at_ r50.2.Fl
else none
else
Xj p16 (p15++([r50.1]:List Am)) r50.2.code_ r50.2.at_ r50.2.Fl
else none
else
some (.inr (p15,p17,p18,p19))
noncomputable def g103 (a0:By):Option ((List Am)×By):=
(g118 a0 16).bind fun r1=>
(Rf a0 (IntKind.i64.wrap (r1+3))).bind fun r3=>
(Bz (Xk) (([]:List Am),r3.1,r3.2.code_,r3.2.at_,r3.2.Fl)).bind fun r55=>
(match r55 with
| (p35,p36,p37,p38)=>
(bQ p35 0 (if 120<(p35.length:Int) then 120 else (p35.length:Int))).bind fun s57=>
some (s57,(By.mk p36 p37 p38)))
noncomputable def g51 (a0:List UInt8):Option (List Am):=
(g83 a0).bind fun r1=>
(g103 r1).bind fun r3=>
some r3.1
noncomputable def qM (a0:Int) (a1:Int) (a2:Int):Option Bool:=
some (bif (decide (a1≤a0)) then (decide (a0≤a2)) else false)
noncomputable def g58 (a0:Int):Option Bool:=
(qM a0 1 1000000).bind fun r1=>
some r1
noncomputable def Zp (a0:List Int) (a1:Int) (a2:Int) (s:Int):Option ((Int)⊕(Unit⊕Bool)):=
match s with
| p11=>
if (decide (p11<(a0.length:Int)))=true then
(Co a0 p11).bind fun y24=>
(qM y24 a1 a2).bind fun r26=>
(if (((!r26)==false)&&((decide (p11>0))==true))=true then Co a0 (IntKind.i64.wrap (p11-1)) else some default).bind fun y28=>
Bs ((bif (!r26) then true else (bif (decide (p11>0)) then (decide (y28≥y24)) else false))) fun v30=>
if v30=true then
some (.inr (.inr false))
else
some (.inl (IntKind.i64.wrap (p11+1)))
else
some (.inr (.inl ()))
noncomputable def g59 (a0:List Int) (a1:Int) (a2:Int):Option Bool:=
(Bz (Zp a0 a1 a2) 0).bind fun r33=>
(match r33 with
| .inl ()=>
some true
| .inr q=>some q)
noncomputable def Nf (a0:Ak) (s:(List Int)×Int):Option (((List Int)×Int)⊕((List Int))):=
match s with
| (p5,p6)=>
if (decide (p6<(a0.Ae.length:Int)))=true then
(Co a0.Ae p6).bind fun y15=>
if (p5.length+([y15.id]:List Int).length)*8≤140737488355328 then
some (.inl ((p5++([y15.id]:List Int)),(IntKind.i64.wrap (p6+1))))
else none
else
some (.inr p5)
noncomputable def g60 (a0:Ak):Option (List Int):=
(Bz (Nf a0) ([],0)).bind fun r18=>
(match r18 with
| p13=>
some p13)
noncomputable def Qj (a0:List Aa) (is1:Aa→Option Bool) (s:Int):Option ((Int)⊕(Unit⊕Int)):=
match s with
| p7=>
if (decide (p7<(a0.length:Int)))=true then
(Co a0 p7).bind fun y16=>
(is1 y16).bind fun r18=>
if r18=true then
some (.inr (.inr p7))
else
some (.inl (IntKind.i64.wrap (p7+1)))
else
some (.inr (.inl ()))
noncomputable def AA (a0:List Aa) (is1:Aa→Option Bool):Option Int:=
(Bz (Qj a0 is1) 0).bind fun r21=>
(match r21 with
| .inl ()=>
some (-1)
| .inr q=>some q)
noncomputable def g105 (a0:List Aa) (is1:Aa→Option Bool):Option Bool:=
(AA a0 is1).bind fun r1=>
some (decide (r1≥0))
noncomputable def zZ (a0:Aa) (is1:Aa→Option Bool):Option Bool:=
(is1 a0).bind fun r1=>
some (!r1)
noncomputable def g61 (a0:List Aa) (is1:Aa→Option Bool):Option Bool:=
(g105 a0 (fun z106_0=>zZ z106_0 is1)).bind fun r1=>
some (!r1)
noncomputable def g62 (a0:Aa) (a1:Ak):Option Bool:=
(qM a0.Bm 0 a0.cap).bind fun r1=>
Bs ((bif r1 then (bif a0.Cj then true else (decide (a0.Bm>a1.clock))) else false)) fun v3=>
some v3
noncomputable def g20 (a0:Ak):Option Bool:=
(if ((decide (a0.clock≥0))==true)=true then g58 a0.next else some default).bind fun r1=>
(if ((bif (bif (decide (a0.clock≥0)) then r1 else false) then (decide ((a0.Ae.length:Int)≤40)) else false)==true)=true then g60 a0 else some default).bind fun r3=>
(if ((bif (bif (decide (a0.clock≥0)) then r1 else false) then (decide ((a0.Ae.length:Int)≤40)) else false)==true)=true then g59 r3 1 (IntKind.i64.wrap (a0.next-1)) else some default).bind fun r5=>
(if ((bif (bif (bif (decide (a0.clock≥0)) then r1 else false) then (decide ((a0.Ae.length:Int)≤40)) else false) then r5 else false)==true)=true then g61 a0.Ae (fun z62_0=>g62 z62_0 a0) else some default).bind fun r7=>
Bs ((bif (bif (bif (bif (decide (a0.clock≥0)) then r1 else false) then (decide ((a0.Ae.length:Int)≤40)) else false) then r5 else false) then r7 else false)) fun v9=>
some v9
noncomputable def Zu (a0:List Ah) (s:(List Int)×Int):Option (((List Int)×Int)⊕((List Int))):=
match s with
| (p5,p6)=>
if (decide (p6<(a0.length:Int)))=true then
(Co a0 p6).bind fun y15=>
if (p5.length+([y15.As]:List Int).length)*8≤140737488355328 then
some (.inl ((p5++([y15.As]:List Int)),(IntKind.i64.wrap (p6+1))))
else none
else
some (.inr p5)
noncomputable def g95 (a0:List Ah):Option (List Int):=
(Bz (Zu a0) ([],0)).bind fun r18=>
(match r18 with
| p13=>
some p13)
def g144 (a0:List Int) (a1:Int):Option (List Int):=if 0≤a1∧(a0.length:Int)+a1≤17592186044416 then some a0 else none
noncomputable def Xn (p7:Int) (p20:Int):Option ((Int×Int)⊕(Int)):=
some (.inl (p20,(IntKind.i64.wrap (p7+1))))
noncomputable def Ll (a0:List (List Int)) (s:Int×Int):Option ((Int×Int)⊕(Int)):=
match s with
| (p6,p7)=>
if (decide (p7<(a0.length:Int)))=true then
(Co a0 p7).bind fun y22=>
if (decide ((IntKind.i64.wrap (p6+(y22.length:Int)))<0))=true then
none
else
Xn p7 (IntKind.i64.wrap (p6+(y22.length:Int)))
else
some (.inr p6)
noncomputable def Lm (a0:List (List Int)) (s:(List Int)×Int):Option (((List Int)×Int)⊕((List Int))):=
match s with
| (p33,p34)=>
if (decide (p34<(a0.length:Int)))=true then
(Co a0 p34).bind fun y43=>
if (p33.length+y43.length)*8≤140737488355328 then
some (.inl ((p33++y43),(IntKind.i64.wrap (p34+1))))
else none
else
some (.inr p33)
noncomputable def g126 (a0:List (List Int)):Option (List Int):=
(Bz (Ll a0) (0,0)).bind fun r25=>
(match r25 with
| p15=>
(g144 ([]:List Int) p15).bind fun r27=>
(Bz (Lm a0) (r27,0)).bind fun r46=>
(match r46 with
| p41=>
some p41))
noncomputable def nX (a0:List Int) (is1:Int→Option Bool) (s:Int):Option ((Int)⊕(Unit⊕Int)):=
match s with
| p7=>
if (decide (p7<(a0.length:Int)))=true then
(Co a0 p7).bind fun y16=>
(is1 y16).bind fun r18=>
if r18=true then
some (.inr (.inr p7))
else
some (.inl (IntKind.i64.wrap (p7+1)))
else
some (.inr (.inl ()))
noncomputable def g127 (a0:List Int) (is1:Int→Option Bool):Option Int:=
(Bz (nX a0 is1) 0).bind fun r21=>
(match r21 with
| .inl ()=>
some (-1)
| .inr q=>some q)
noncomputable def AD (a0:Int) (a1:List (Int×Bool)):Option Bool:=
some (!(Mn a1 a0))
noncomputable def Vn (r5:(List Int)) (s:Int×(List (Int×Bool))):Option ((Int×(List (Int×Bool)))⊕((List (Int×Bool)))):=
match s with
| (p12,p13)=>
if (decide (p12<(r5.length:Int)))=true then
(Co r5 p12).bind fun y23=>
(r5[p12.toNat]?).bind fun y25=>
some (.inl ((IntKind.i64.wrap (p12+1)),(Rm p13 y25 true)))
else
some (.inr p13)
noncomputable def g96 (a0:Aj):Option (Int×Bool):=
(g60 a0.Ad).bind fun r1=>
(g95 a0.Ab).bind fun r3=>
(g126 ([r1,r3]:List (List Int))).bind fun r5=>
(Bz (Vn r5) (0,([]:List (Int×Bool)))).bind fun r27=>
(match r27 with
| p21=>
(g127 a0.Ai (fun z128_0=>AD z128_0 p21)).bind fun r29=>
if (decide (r29<0))=true then
some (0,false)
else
(Co a0.Ai r29).bind fun y32=>
some (y32,true))
noncomputable def g129 (a0:List Int) (is1:Int→Option Bool):Option Bool:=
(g127 a0 is1).bind fun r1=>
some (decide (r1≥0))
noncomputable def g130 (a0:Int) (is1:Int→Option Bool):Option Bool:=
(is1 a0).bind fun r1=>
some (!r1)
noncomputable def g97 (a0:List Int) (is1:Int→Option Bool):Option Bool:=
(g129 a0 (fun z130_0=>g130 z130_0 is1)).bind fun r1=>
some (!r1)
noncomputable def Xl (a0:List Aa) (a1:Int) (is2:Aa→Int→Option Int) (s:Int×Int):Option ((Int×Int)⊕(Int)):=
match s with
| (p9,p10)=>
if (decide (p9<p10))=true then
Bs (IntKind.i64.wrap (Nj .u64 (IntKind.u64.wrap (IntKind.i64.wrap (p9+p10))) 1)) fun v23=>
(Co a0 v23).bind fun y25=>
(is2 y25 a1).bind fun r27=>
if (decide (r27<0))=true then
some (.inl ((IntKind.i64.wrap (v23+1)),p10))
else
some (.inl (p9,v23))
else
some (.inr p9)
noncomputable def g113 (a0:List Aa) (a1:Int) (is2:Aa→Int→Option Int):Option (Int×Bool):=
(Bz (Xl a0 a1 is2) (0,(a0.length:Int))).bind fun r30=>
(match r30 with
| p21=>
(if ((decide (p21<(a0.length:Int)))==true)=true then Co a0 p21 else some default).bind fun y32=>
(if ((decide (p21<(a0.length:Int)))==true)=true then is2 y32 a1 else some default).bind fun r34=>
some (p21,(bif (decide (p21<(a0.length:Int))) then (r34==0) else false)))
noncomputable def iI (a0:Int):Option Bool:=
some (a0 != a0)
noncomputable def qF (a0:Int) (a1:Int):Option Int:=
(iI a0).bind fun r1=>
(iI a1).bind fun r3=>
if r1=true then
if r3=true then
some 0
else
some (-1)
else
if r3=true then
some 1
else
if (decide (a0<a1))=true then
some (-1)
else
if (decide (a0>a1))=true then
some 1
else
some 0
noncomputable def qG (a0:Aa) (a1:Int):Option Int:=
(qF a0.id a1).bind fun r1=>
some r1
noncomputable def ED (a0:Ak) (a1:Int):Option (Int×Bool):=
(g113 a0.Ae a1 (fun z114_0 z114_1=>qG z114_0 z114_1)).bind fun r1=>
some (r1.1,r1.2)
noncomputable def g98 (a0:Int) (a1:Aj):Option Bool:=
(ED a1.Ad a0).bind fun r1=>
some (!r1.2)
noncomputable def g48 (a0:Aj):Option Bool:=
(g20 a0.Ad).bind fun r1=>
(if ((bif (!r1) then true else (decide ((a0.Ab.length:Int)>40)))==false)=true then g95 a0.Ab else some default).bind fun r3=>
(if ((bif (!r1) then true else (decide ((a0.Ab.length:Int)>40)))==false)=true then g59 r3 1 (IntKind.i64.wrap (a0.Ad.next-1)) else some default).bind fun r5=>
(if ((bif (bif (bif (!r1) then true else (decide ((a0.Ab.length:Int)>40))) then true else (!r5)) then true else (decide ((a0.Ai.length:Int)>80)))==false)=true then g59 a0.Ai 1 (IntKind.i64.wrap (a0.Ad.next-1)) else some default).bind fun r7=>
Bs ((bif (bif (bif (bif (!r1) then true else (decide ((a0.Ab.length:Int)>40))) then true else (!r5)) then true else (decide ((a0.Ai.length:Int)>80))) then true else (!r7))) fun v9=>
if v9=true then
some false
else
(g96 a0).bind fun r12=>
(if ((!r12.2)==true)=true then g95 a0.Ab else some default).bind fun r14=>
(if ((!r12.2)==true)=true then g97 r14 (fun z98_0=>g98 z98_0 a0) else some default).bind fun r16=>
some (bif (!r12.2) then r16 else false)
noncomputable def g87 (a0:List Int):Option Bool:=
some (decide ((a0.length:Int)≤4096))
noncomputable def g88 (a0:Int):Option Bool:=
(qM a0 0 2).bind fun r1=>
some r1
noncomputable def g457 (a0:Am):Option Bool:=
(g87 a0.Cb).bind fun r1=>
(if (r1==true)=true then g97 a0.Cb (fun z88_0=>g88 z88_0) else some default).bind fun r3=>
(if ((bif r1 then r3 else false)==true)=true then qM a0.stop 0 2 else some default).bind fun r5=>
some (bif (bif r1 then r3 else false) then r5 else false)
def g66 (a0:List Aa):Option (List Aa):=if ([]:List Aa).length+a0.length≤4398046511104 then some a0 else none
noncomputable def eF (a0:Ak):Option Ak:=
(g66 a0.Ae).bind fun r1=>
some (Ak.mk a0.clock a0.next r1)
noncomputable def g75 (a0:Ak) (a1:Int):Option (Ak×Int):=
(ED a0 a1).bind fun r1=>
if (!r1.2)=true then
some ((Ak.mk 0 0 ([]:List Aa)),5)
else
(eF a0).bind fun r4=>
(Co r4.Ae r1.1).bind fun y6=>
(r4.Ae[r1.1.toNat]?).bind fun y8=>
some ((Ak.mk r4.clock r4.next (r4.Ae.set r1.1.toNat (Aa.mk y8.id y8.Bm y8.cap true))),0)
noncomputable def g54 (a0:Int) (a1:Int):Option Int:=
if (decide (a0>(IntKind.i64.wrap (9223372036854775807-a1))))=true then
some 9223372036854775807
else
some (IntKind.i64.wrap (a0+a1))
noncomputable def g80 (a0:Ak) (a1:Int) (a2:Int):Option (Ak×Int):=
(ED a0 a1).bind fun r1=>
if (decide (a2<1))=true then
some ((Ak.mk 0 0 ([]:List Aa)),4)
else
if (!r1.2)=true then
some ((Ak.mk 0 0 ([]:List Aa)),5)
else
(Co a0.Ae r1.1).bind fun y5=>
if y5.Cj=true then
some ((Ak.mk 0 0 ([]:List Aa)),13)
else
(eF a0).bind fun r8=>
(Co r8.Ae r1.1).bind fun y10=>
(r8.Ae[r1.1.toNat]?).bind fun y12=>
(g54 a0.clock a2).bind fun r14=>
Bs (r8.Ae.set r1.1.toNat (Aa.mk y12.id (if y12.cap<r14 then y12.cap else r14) y12.cap y12.Cj)) fun v16=>
some ((Ak.mk r8.clock r8.next v16),0)
def kV (a0:List Int):Option (List Int):=if ([]:List Int).length+a0.length≤17592186044416 then some a0 else none
def lQ (a0:List Ah):Option (List Ah):=if ([]:List Ah).length+a0.length≤8796093022208 then some a0 else none
noncomputable def g463 (a0:Aj):Option Aj:=
(eF a0.Ad).bind fun r1=>
(lQ a0.Ab).bind fun r3=>
(kV a0.Ai).bind fun r5=>
some (Aj.mk r1 r3 r5 a0.Al)
noncomputable def bT (a0:Aj) (a1:Int):Option (Aj×Ao):=
some (a0,(Ao.mk a1 0))
noncomputable def g71 (a0:Ak) (a1:Int) (a2:Int):Option (Ak×Int×Int):=
if (bif (decide (a1<1)) then true else (decide (a2<a1)))=true then
some ((Ak.mk 0 0 ([]:List Aa)),0,4)
else
if (a0.clock==9223372036854775807)=true then
some ((Ak.mk 0 0 ([]:List Aa)),0,11)
else
Bs ((bif ((a0.Ae.length:Int)==40) then true else (a0.next==1000000))) fun v3=>
if v3=true then
some ((Ak.mk 0 0 ([]:List Aa)),0,9)
else
(eF a0).bind fun r6=>
(g54 a0.clock a1).bind fun r8=>
(g54 a0.clock a2).bind fun r10=>
if (r6.Ae.length+([(Aa.mk a0.next r8 r10 false)]:List Aa).length)*32≤140737488355328 then
some ((Ak.mk r6.clock (IntKind.i64.wrap (r6.next+1)) (r6.Ae++([(Aa.mk a0.next r8 r10 false)]:List Aa))),a0.next,0)
else none
noncomputable def Qu (a0:Aj) (s:Int×(List Ah)):Option ((Int×(List Ah))⊕((List Ah))):=
match s with
| (p6,p7)=>
if (decide (p6<(a0.Ab.length:Int)))=true then
(Co p7 p6).bind fun y17=>
(p7[p6.toNat]?).bind fun y19=>
some (.inl ((IntKind.i64.wrap (p6+1)),(p7.set p6.toNat (Ah.mk y19.As true))))
else
some (.inr p7)
noncomputable def eV (a0:Aj):Option (Aj×Ao):=
(Bz (Qu a0) (0,a0.Ab)).bind fun r21=>
(match r21 with
| p15=>
some ((Aj.mk a0.Ad p15 a0.Ai true),(Ao.mk 15 0)))
noncomputable def g140 (a0:Int) (a1:Int):Option Bool:=
(iI a0).bind fun r1=>
(if (r1==true)=true then iI a1 else some default).bind fun r3=>
Bs ((bif (bif r1 then (!r3) else false) then true else (decide (a0<a1)))) fun v5=>
some v5
noncomputable def AF (a0:Int):Option Bool:=
some (a0 != a0)
noncomputable def Xm (a0:List Int) (a1:Int) (s:Int×Int):Option ((Int×Int)⊕(Int)):=
match s with
| (p9,p10)=>
if (decide (p9<p10))=true then
Bs (IntKind.i64.wrap (Nj .u64 (IntKind.u64.wrap (IntKind.i64.wrap (p9+p10))) 1)) fun v23=>
(Co a0 v23).bind fun y25=>
(g140 y25 a1).bind fun r27=>
if r27=true then
some (.inl ((IntKind.i64.wrap (v23+1)),p10))
else
some (.inl (p9,v23))
else
some (.inr p9)
noncomputable def g121 (a0:List Int) (a1:Int):Option (Int×Bool):=
(Bz (Xm a0 a1) (0,(a0.length:Int))).bind fun r30=>
(match r30 with
| p21=>
(if ((decide (p21<(a0.length:Int)))==true)=true then Co a0 p21 else some default).bind fun y32=>
(if (((decide (p21<(a0.length:Int)))==true)&&((y32==a1)==false))=true then Co a0 p21 else some default).bind fun y34=>
(if (((decide (p21<(a0.length:Int)))==true)&&((y32==a1)==false))=true then AF y34 else some default).bind fun r36=>
(if ((((decide (p21<(a0.length:Int)))==true)&&((y32==a1)==false))&&(r36==true))=true then AF a1 else some default).bind fun r38=>
Bs ((bif (decide (p21<(a0.length:Int))) then (bif (y32==a1) then true else (bif r36 then r38 else false)) else false)) fun v40=>
some (p21,v40))
def g122 (a0:List Int) (a1:Int) (a2:List Int):Option ((List Int)×(List Int)):=if (0≤a1∧a1≤(a0.length:Int))∧0<a2.length∧a0.length+a2.length≤17592186044416 then some (a0.take a1.toNat++a2++a0.drop a1.toNat,a2) else none
def g123 (a0:List Int) (a1:Int) (a2:Int):Option (List Int):=if (0≤a1∧a1≤a2∧a2≤(a0.length:Int))∧a0.length≤17592186044416 then some (a0.take a1.toNat++a0.drop a2.toNat) else none
noncomputable def Vm (a3:Int) (p13:List Int):Option ((List Int)×Int):=
if (a3==2)=true then
some (p13,15)
else
some (p13,0)
noncomputable def g89 (a0:List Int) (a1:Int) (a2:Bool) (a3:Int):Option ((List Int)×Int):=
(kV a0).bind fun r1=>
if (a3==1)=true then
some (r1,13)
else
(g121 r1 a1).bind fun r4=>
if (bif a2 then (!r4.2) else false)=true then
(g122 r1 r4.1 ([a1]:List Int)).bind fun r17=>
if r17.2.length=([a1]:List Int).length then
Vm a3 r17.1
else none
else
if (bif (!a2) then r4.2 else false)=true then
(g123 r1 r4.1 (IntKind.i64.wrap (r4.1+1))).bind fun r21=>
Vm a3 r21
else
Vm a3 r1
noncomputable def Tr (a0:Cu) (a1:Int) (a2:Bool) (p4:Int):Option (Int×Cu):=
(g89 a0.v.Ai a1 a2 p4).bind fun r5=>
some (r5.2,(Cu.mk (Aj.mk a0.v.Ad a0.v.Ab r5.1 a0.v.Al) a0.a (IntKind.i64.wrap (a0.Gs+1))))
noncomputable def eW (a0:Cu) (a1:Int) (a2:Bool):Option (Int×Cu):=
if (decide (a0.Gs<(a0.a.Cb.length:Int)))=true then
(Co a0.a.Cb a0.Gs).bind fun y9=>
Tr a0 a1 a2 y9
else
Tr a0 a1 a2 0
noncomputable def Ke (a0:Aj) (a1:Am) (r1:Ak×Int×Int) (p4:Int):Option (Aj×Ao):=
if (p4 != 0)=true then
(bT a0 p4).bind fun r6=>
some (r6.1,r6.2)
else
if (a0.Ab.length+([(Ah.mk r1.2.1 false)]:List Ah).length)*16≤140737488355328 then
if (a1.stop==1)=true then
(eV (Aj.mk (Ak.mk a0.Ad.clock (IntKind.i64.wrap (a0.Ad.next+1)) a0.Ad.Ae) (a0.Ab++([(Ah.mk r1.2.1 false)]:List Ah)) a0.Ai a0.Al)).bind fun r10=>
some (r10.1,r10.2)
else
(eW (Cu.mk (Aj.mk (Ak.mk a0.Ad.clock (IntKind.i64.wrap (a0.Ad.next+1)) a0.Ad.Ae) (a0.Ab++([(Ah.mk r1.2.1 false)]:List Ah)) a0.Ai a0.Al) a1 0) r1.2.1 true).bind fun r12=>
if (a1.stop==2)=true then
(eV r12.2.v).bind fun r15=>
some (r15.1,r15.2)
else
if (r12.1 != 0)=true then
(Co r12.2.v.Ab (IntKind.i64.wrap ((r12.2.v.Ab.length:Int)-1))).bind fun y18=>
(r12.2.v.Ab[(IntKind.i64.wrap ((r12.2.v.Ab.length:Int)-1)).toNat]?).bind fun y20=>
(bT (Aj.mk r12.2.v.Ad (r12.2.v.Ab.set ((IntKind.i64.wrap ((r12.2.v.Ab.length:Int)-1)).toNat) (Ah.mk y20.As true)) r12.2.v.Ai r12.2.v.Al) r12.1).bind fun r22=>
some (r22.1,r22.2)
else
(bQ r12.2.v.Ab 0 (IntKind.i64.wrap ((r12.2.v.Ab.length:Int)-1))).bind fun s24=>
some ((Aj.mk r1.1 s24 r12.2.v.Ai r12.2.v.Al),(Ao.mk 0 r1.2.1))
else none
noncomputable def g465 (a0:Aj) (a1:Am):Option (Aj×Ao):=
(g71 a0.Ad a1.ttl a1.Ef).bind fun r1=>
if (bif (r1.2.2==0) then ((a0.Ab.length:Int)==40) else false)=true then
Ke a0 a1 r1 9
else
Ke a0 a1 r1 r1.2.2
noncomputable def AL (a0:Aj) (a1:Ak) (a2:Int):Option (Aj×Ao):=
if (a2 != 0)=true then
(bT a0 a2).bind fun r2=>
some (r2.1,r2.2)
else
some ((Aj.mk a1 a0.Ab a0.Ai a0.Al),(Ao.mk 0 0))
def g115 (a0:List Aa) (a1:Int) (a2:Int):Option (List Aa):=if (0≤a1∧a1≤a2∧a2≤(a0.length:Int))∧a0.length≤4398046511104 then some (a0.take a1.toNat++a0.drop a2.toNat) else none
noncomputable def g78 (a0:Ak) (a1:Int):Option Ak:=
(eF a0).bind fun r1=>
(g115 r1.Ae a1 (IntKind.i64.wrap (a1+1))).bind fun r3=>
some (Ak.mk r1.clock r1.next r3)
noncomputable def Tb (a0:List Int) (s:Int):Option ((Int)⊕(Unit⊕Int)):=
match s with
| p5=>
if (decide (p5<(a0.length:Int)))=true then
(Co a0 p5).bind fun y12=>
if (y12 != 0)=true then
some (.inr (.inr y12))
else
some (.inl (IntKind.i64.wrap (p5+1)))
else
some (.inr (.inl ()))
noncomputable def g109 (a0:List Int):Option Int:=
(Bz (Tb a0) 0).bind fun r15=>
(match r15 with
| .inl ()=>
some 0
| .inr q=>some q)
noncomputable def g69 (a0:Aa) (a1:Aa):Option Int:=
(qF a0.Bm a1.Bm).bind fun r1=>
(qF a0.id a1.id).bind fun r3=>
(g109 ([r1,r3]:List Int)).bind fun r5=>
some r5
noncomputable def Xt (a1:Int) (is3:Aa→Aa→Option Int) (s:(List Aa)×Int):Option (((List Aa)×Int)⊕((List Aa))):=
match s with
| (p136,p137)=>
(if ((decide (p137>a1))==true)=true then Co p136 p137 else some default).bind fun y164=>
(if ((decide (p137>a1))==true)=true then p136[p137.toNat]? else some default).bind fun y166=>
(if ((decide (p137>a1))==true)=true then Co p136 (IntKind.i64.wrap (p137-1)) else some default).bind fun y168=>
(if ((decide (p137>a1))==true)=true then p136[(IntKind.i64.wrap (p137-1)).toNat]? else some default).bind fun y170=>
(if ((decide (p137>a1))==true)=true then is3 y166 y170 else some default).bind fun r172=>
if (bif (decide (p137>a1)) then (decide (r172<0)) else false)=true then
(Co p136 (IntKind.i64.wrap (p137-1))).bind fun y175=>
(p136[(IntKind.i64.wrap (p137-1)).toNat]?).bind fun y177=>
(Co p136 p137).bind fun y179=>
(p136[p137.toNat]?).bind fun y181=>
(Co (p136.set p137.toNat y177) (IntKind.i64.wrap (p137-1))).bind fun y183=>
((p136.set p137.toNat y177)[(IntKind.i64.wrap (p137-1)).toNat]?).bind fun y185=>
some (.inl (((p136.set p137.toNat y177).set ((IntKind.i64.wrap (p137-1)).toNat) y181),(IntKind.i64.wrap (p137-1))))
else
some (.inr p136)
noncomputable def Xs (a1:Int) (a2:Int) (is3:Aa→Aa→Option Int) (s:(List Aa)×Int):Option (((List Aa)×Int)⊕((List Aa))):=
match s with
| (p55,p56)=>
if (decide (p56<a2))=true then
(Bz (Xt a1 is3) (p55,p56)).bind fun r187=>
(match r187 with
| p163=>
some (.inl (p163,(IntKind.i64.wrap (p56+1)))))
else
some (.inr p55)
noncomputable def g148 (a0:List Aa) (a1:Int) (a2:Int) (is3:Aa→Aa→Option Int):Option (List Aa):=
(Bz (Xs a1 a2 is3) (a0,(IntKind.i64.wrap (a1+1)))).bind fun r189=>
(match r189 with
| p111=>
some p111)
noncomputable def Nd (a3:Int) (is4:Aa→Aa→Option Int) (p39:List Aa) (p40:Int) (p96:Int):Option (((List Aa)×Int)⊕((List Aa)⊕(List Aa))):=
(Co p39 (IntKind.i64.wrap (a3+p40))).bind fun y97=>
(p39[(IntKind.i64.wrap (a3+p40)).toNat]?).bind fun y99=>
(Co p39 (IntKind.i64.wrap (a3+p96))).bind fun y101=>
(p39[(IntKind.i64.wrap (a3+p96)).toNat]?).bind fun y103=>
(is4 y99 y103).bind fun r105=>
if (!(decide (r105<0)))=true then
some (.inr (.inr p39))
else
(Co p39 (IntKind.i64.wrap (a3+p96))).bind fun y108=>
(p39[(IntKind.i64.wrap (a3+p96)).toNat]?).bind fun y110=>
(Co p39 (IntKind.i64.wrap (a3+p40))).bind fun y112=>
(p39[(IntKind.i64.wrap (a3+p40)).toNat]?).bind fun y114=>
(Co (p39.set ((IntKind.i64.wrap (a3+p40)).toNat) y110) (IntKind.i64.wrap (a3+p96))).bind fun y116=>
((p39.set ((IntKind.i64.wrap (a3+p40)).toNat) y110)[(IntKind.i64.wrap (a3+p96)).toNat]?).bind fun y118=>
some (.inl (((p39.set ((IntKind.i64.wrap (a3+p40)).toNat) y110).set ((IntKind.i64.wrap (a3+p96)).toNat) y114),p96))
noncomputable def Yh (a2:Int) (a3:Int) (is4:Aa→Aa→Option Int) (s:(List Aa)×Int):Option (((List Aa)×Int)⊕((List Aa)⊕(List Aa))):=
match s with
| (p39,p40)=>
if (decide ((IntKind.i64.wrap ((IntKind.i64.wrap (2*p40))+1))≥a2))=true then
some (.inr (.inl p39))
else
(if ((decide ((IntKind.i64.wrap ((IntKind.i64.wrap ((IntKind.i64.wrap (2*p40))+1))+1))<a2))==true)=true then Co p39 (IntKind.i64.wrap (a3+(IntKind.i64.wrap ((IntKind.i64.wrap (2*p40))+1)))) else some default).bind fun y83=>
(if ((decide ((IntKind.i64.wrap ((IntKind.i64.wrap ((IntKind.i64.wrap (2*p40))+1))+1))<a2))==true)=true then p39[(IntKind.i64.wrap (a3+(IntKind.i64.wrap ((IntKind.i64.wrap (2*p40))+1)))).toNat]? else some default).bind fun y85=>
(if ((decide ((IntKind.i64.wrap ((IntKind.i64.wrap ((IntKind.i64.wrap (2*p40))+1))+1))<a2))==true)=true then Co p39 (IntKind.i64.wrap ((IntKind.i64.wrap (a3+(IntKind.i64.wrap ((IntKind.i64.wrap (2*p40))+1))))+1)) else some default).bind fun y87=>
(if ((decide ((IntKind.i64.wrap ((IntKind.i64.wrap ((IntKind.i64.wrap (2*p40))+1))+1))<a2))==true)=true then p39[(IntKind.i64.wrap ((IntKind.i64.wrap (a3+(IntKind.i64.wrap ((IntKind.i64.wrap (2*p40))+1))))+1)).toNat]? else some default).bind fun y89=>
(if ((decide ((IntKind.i64.wrap ((IntKind.i64.wrap ((IntKind.i64.wrap (2*p40))+1))+1))<a2))==true)=true then is4 y85 y89 else some default).bind fun r91=>
Bs ((bif (decide ((IntKind.i64.wrap ((IntKind.i64.wrap ((IntKind.i64.wrap (2*p40))+1))+1))<a2)) then (decide (r91<0)) else false)) fun v93=>
if v93=true then
Nd a3 is4 p39 p40 (IntKind.i64.wrap ((IntKind.i64.wrap ((IntKind.i64.wrap (2*p40))+1))+1))
else
Nd a3 is4 p39 p40 (IntKind.i64.wrap ((IntKind.i64.wrap (2*p40))+1))
noncomputable def AI (a0:List Aa) (a1:Int) (a2:Int) (a3:Int) (is4:Aa→Aa→Option Int):Option (List Aa):=
(Bz (Yh a2 a3 is4) (a0,a1)).bind fun r122=>
(match r122 with
| .inl p81=>
some p81
| .inr q=>some q)
noncomputable def Xu (a1:Int) (a2:Int) (is3:Aa→Aa→Option Int) (s:(List Aa)×Int):Option (((List Aa)×Int)⊕((List Aa))):=
match s with
| (p7,p8)=>
if (decide (p8≥0))=true then
(AI p7 p8 (IntKind.i64.wrap (a2-a1)) a1 is3).bind fun r17=>
if r17.length=p7.length then
some (.inl (r17,(IntKind.i64.wrap (p8-1))))
else none
else
some (.inr p7)
noncomputable def Xv (a1:Int) (is3:Aa→Aa→Option Int) (s:(List Aa)×Int):Option (((List Aa)×Int)⊕((List Aa))):=
match s with
| (p38,p39)=>
if (decide (p39≥0))=true then
(Co p38 (IntKind.i64.wrap (a1+p39))).bind fun y60=>
(p38[(IntKind.i64.wrap (a1+p39)).toNat]?).bind fun y62=>
(Co p38 a1).bind fun y64=>
(p38[a1.toNat]?).bind fun y66=>
(Co (p38.set a1.toNat y62) (IntKind.i64.wrap (a1+p39))).bind fun y68=>
((p38.set a1.toNat y62)[(IntKind.i64.wrap (a1+p39)).toNat]?).bind fun y70=>
(AI ((p38.set a1.toNat y62).set ((IntKind.i64.wrap (a1+p39)).toNat) y66) 0 p39 a1 is3).bind fun r72=>
if r72.length=((p38.set a1.toNat y62).set ((IntKind.i64.wrap (a1+p39)).toNat) y66).length then
some (.inl (r72,(IntKind.i64.wrap (p39-1))))
else none
else
some (.inr p38)
noncomputable def g149 (a0:List Aa) (a1:Int) (a2:Int) (is3:Aa→Aa→Option Int):Option (List Aa):=
Bs (IntKind.i64.wrap (((IntKind.i64.wrap ((IntKind.i64.wrap (a2-a1))-1))).tdiv 2)) fun v1=>
(Bz (Xu a1 a2 is3) (a0,v1)).bind fun r20=>
(match r20 with
| p15=>
(Bz (Xv a1 is3) (p15,(IntKind.i64.wrap ((IntKind.i64.wrap (a2-a1))-1)))).bind fun r75=>
(match r75 with
| p58=>
some p58))
noncomputable def eN (p5:Int) (p6:Int):Option Int:=
(Co ([0,1,2,2,3,3,3,3,4,4,4,4,4,4,4,4,5,5,5,5,5,5,5,5,5,5,5,5,5,5,5,5,6,6,6,6,6,6,6,6,6,6,6,6,6,6,6,6,6,6,6,6,6,6,6,6,6,6,6,6,6,6,6,6,7,7,7,7,7,7,7,7,7,7,7,7,7,7,7,7,7,7,7,7,7,7,7,7,7,7,7,7,7,7,7,7,7,7,7,7,7,7,7,7,7,7,7,7,7,7,7,7,7,7,7,7,7,7,7,7,7,7,7,7,7,7,7,7,8,8,8,8,8,8,8,8,8,8,8,8,8,8,8,8,8,8,8,8,8,8,8,8,8,8,8,8,8,8,8,8,8,8,8,8,8,8,8,8,8,8,8,8,8,8,8,8,8,8,8,8,8,8,8,8,8,8,8,8,8,8,8,8,8,8,8,8,8,8,8,8,8,8,8,8,8,8,8,8,8,8,8,8,8,8,8,8,8,8,8,8,8,8,8,8,8,8,8,8,8,8,8,8,8,8,8,8,8,8,8,8,8,8,8,8,8,8,8,8,8,8,8,8,8,8,8,8]:List UInt8) ((b8 p5).toNat:Int)).bind fun y7=>
some (IntKind.i64.wrap (p6+(IntKind.i64.wrap ((y7).toNat:Int))))
noncomputable def eM (p2:Int) (p3:Int):Option Int:=
if (decide (p2≥256))=true then
eN (Nj .u32 p2 8) (IntKind.i64.wrap (p3+8))
else
eN p2 p3
noncomputable def g156 (a0:Int):Option Int:=
if (decide (a0≥65536))=true then
eM (Nj .u32 a0 16) 16
else
eM a0 0
noncomputable def To (p8:Int) (p9:Int):Option Int:=
(Co ([0,1,2,2,3,3,3,3,4,4,4,4,4,4,4,4,5,5,5,5,5,5,5,5,5,5,5,5,5,5,5,5,6,6,6,6,6,6,6,6,6,6,6,6,6,6,6,6,6,6,6,6,6,6,6,6,6,6,6,6,6,6,6,6,7,7,7,7,7,7,7,7,7,7,7,7,7,7,7,7,7,7,7,7,7,7,7,7,7,7,7,7,7,7,7,7,7,7,7,7,7,7,7,7,7,7,7,7,7,7,7,7,7,7,7,7,7,7,7,7,7,7,7,7,7,7,7,7,8,8,8,8,8,8,8,8,8,8,8,8,8,8,8,8,8,8,8,8,8,8,8,8,8,8,8,8,8,8,8,8,8,8,8,8,8,8,8,8,8,8,8,8,8,8,8,8,8,8,8,8,8,8,8,8,8,8,8,8,8,8,8,8,8,8,8,8,8,8,8,8,8,8,8,8,8,8,8,8,8,8,8,8,8,8,8,8,8,8,8,8,8,8,8,8,8,8,8,8,8,8,8,8,8,8,8,8,8,8,8,8,8,8,8,8,8,8,8,8,8,8,8,8,8,8,8,8]:List UInt8) ((b8 p8).toNat:Int)).bind fun y10=>
some (IntKind.i64.wrap (p9+(IntKind.i64.wrap ((y10).toNat:Int))))
noncomputable def Tn (p5:Int) (p6:Int):Option Int:=
if (decide (p5≥256))=true then
To (Nj .u64 p5 8) (IntKind.i64.wrap (p6+8))
else
To p5 p6
noncomputable def Yg (p2:Int) (p3:Int):Option Int:=
if (decide (p2≥65536))=true then
Tn (Nj .u64 p2 16) (IntKind.i64.wrap (p3+16))
else
Tn p2 p3
noncomputable def g157 (a0:Int):Option Int:=
if (decide (a0≥4294967296))=true then
Yg (Nj .u64 a0 32) 32
else
Yg a0 0
noncomputable def AE (a0:Int):Option Int:=
if false=true then
(g156 (IntKind.u32.wrap a0)).bind fun r2=>
some r2
else
(g157 a0).bind fun r4=>
some r4
noncomputable def g160 (a0:Int):Option Int:=
(AE (IntKind.u64.wrap a0)).bind fun r1=>
if 0≤r1 then
some (fM .u64 1 r1)
else none
noncomputable def g161 (a0:Int):Option (Int×Int):=
Bs (bV .u64 (bV .u64 a0 (fM .u64 a0 13)) (Nj .u64 (bV .u64 a0 (fM .u64 a0 13)) 7)) fun v1=>
some (bV .u64 v1 (fM .u64 v1 17),bV .u64 v1 (fM .u64 v1 17))
noncomputable def Tf (a1:Int) (p27:List Aa) (p28:Int) (r58:Int×Int) (p63:Int):Option (((List Aa)×Int×Int)⊕((List Aa))):=
(Co p27 (IntKind.i64.wrap (a1+p63))).bind fun y64=>
(p27[(IntKind.i64.wrap (a1+p63)).toNat]?).bind fun y66=>
(Co p27 p28).bind fun y68=>
(p27[p28.toNat]?).bind fun y70=>
(Co (p27.set p28.toNat y66) (IntKind.i64.wrap (a1+p63))).bind fun y72=>
((p27.set p28.toNat y66)[(IntKind.i64.wrap (a1+p63)).toNat]?).bind fun y74=>
some (.inl (((p27.set p28.toNat y66).set ((IntKind.i64.wrap (a1+p63)).toNat) y70),(IntKind.i64.wrap (p28+1)),r58.2))
noncomputable def Tg (a1:Int) (a2:Int) (r2:Int) (s:(List Aa)×Int×Int):Option (((List Aa)×Int×Int)⊕((List Aa))):=
match s with
| (p27,p28,p29)=>
Bs ((decide (p28≤(IntKind.i64.wrap ((IntKind.i64.wrap (a1+(IntKind.i64.wrap ((IntKind.i64.wrap (((IntKind.i64.wrap (a2-a1))).tdiv 4))*2))))+1))))) fun v55=>
if v55=true then
(g161 p29).bind fun r58=>
Bs ((decide ((IntKind.i64.wrap (fJ .u64 r58.1 (IntKind.u64.wrap (r2-1))))≥(IntKind.i64.wrap (a2-a1))))) fun v60=>
if v60=true then
Tf a1 p27 p28 r58 (IntKind.i64.wrap ((IntKind.i64.wrap (fJ .u64 r58.1 (IntKind.u64.wrap (r2-1))))-(IntKind.i64.wrap (a2-a1))))
else
Tf a1 p27 p28 r58 (IntKind.i64.wrap (fJ .u64 r58.1 (IntKind.u64.wrap (r2-1))))
else
some (.inr p27)
noncomputable def qJ (a0:List Aa) (a1:Int) (a2:Int) (is3:Aa→Aa→Option Int):Option (List Aa):=
if (decide ((IntKind.i64.wrap (a2-a1))≥8))=true then
(g160 (IntKind.i64.wrap (a2-a1))).bind fun r2=>
Bs (IntKind.i64.wrap ((IntKind.i64.wrap (a1+(IntKind.i64.wrap ((IntKind.i64.wrap (((IntKind.i64.wrap (a2-a1))).tdiv 4))*2))))-1)) fun v4=>
(Bz (Tg a1 a2 r2) (a0,v4,(IntKind.u64.wrap (IntKind.i64.wrap (a2-a1))))).bind fun r78=>
(match r78 with
| p54=>
some p54)
else
some a0
noncomputable def qL (a0:List Aa) (a1:Int) (a2:Int) (a3:Int) (is4:Aa→Aa→Option Int):Option (Int×Int×Int):=
(Co a0 a2).bind fun y1=>
(Co a0 a1).bind fun y3=>
(is4 y1 y3).bind fun r5=>
if (decide (r5<0))=true then
some (a2,a1,IntKind.i64.wrap (a3+1))
else
some (a1,a2,a3)
noncomputable def AJ (a0:List Aa) (a1:Int) (a2:Int) (a3:Int) (a4:Int) (is5:Aa→Aa→Option Int):Option (Int×Int):=
(qL a0 a1 a2 a4 is5).bind fun r1=>
(qL a0 r1.2.1 a3 r1.2.2 is5).bind fun r3=>
(qL a0 r1.1 r3.1 r3.2.2 is5).bind fun r5=>
some (r5.2.1,r5.2.2)
noncomputable def qK (a0:List Aa) (a1:Int) (a2:Int) (is3:Aa→Aa→Option Int):Option (Int×Int):=
(AJ a0 (IntKind.i64.wrap (a1-1)) a1 (IntKind.i64.wrap (a1+1)) a2 is3).bind fun r1=>
some (r1.1,r1.2)
noncomputable def Th (p21:Int) (p22:Int):Option (Int×Int):=
if (p22==0)=true then
some (p21,1)
else
if (p22==12)=true then
some (p21,2)
else
some (p21,0)
noncomputable def Ti (a0:List Aa) (is3:Aa→Aa→Option Int) (p34:Int) (p35:Int) (p36:Int) (p37:Int):Option (Int×Int):=
(AJ a0 p34 p35 p36 p37 is3).bind fun r38=>
Th r38.1 r38.2
noncomputable def g151 (a0:List Aa) (a1:Int) (a2:Int) (is3:Aa→Aa→Option Int):Option (Int×Int):=
Bs (IntKind.i64.wrap (a1+(IntKind.i64.wrap ((IntKind.i64.wrap (((IntKind.i64.wrap (a2-a1))).tdiv 4))*1)))) fun v1=>
Bs (IntKind.i64.wrap (a1+(IntKind.i64.wrap ((IntKind.i64.wrap (((IntKind.i64.wrap (a2-a1))).tdiv 4))*2)))) fun v3=>
Bs (IntKind.i64.wrap (a1+(IntKind.i64.wrap ((IntKind.i64.wrap (((IntKind.i64.wrap (a2-a1))).tdiv 4))*3)))) fun v5=>
if (decide ((IntKind.i64.wrap (a2-a1))≥8))=true then
if (decide ((IntKind.i64.wrap (a2-a1))≥50))=true then
(qK a0 v1 0 is3).bind fun r42=>
(qK a0 v3 r42.2 is3).bind fun r44=>
(qK a0 v5 r44.2 is3).bind fun r46=>
Ti a0 is3 r42.1 r44.1 r46.1 r46.2
else
Ti a0 is3 v1 v3 v5 0
else
Th v3 0
noncomputable def Xw  (s:(List Aa)×Int×Int):Option (((List Aa)×Int×Int)⊕((List Aa))):=
match s with
| (p14,p15,p16)=>
if (decide (p15<p16))=true then
(Co p14 p16).bind fun y35=>
(p14[p16.toNat]?).bind fun y37=>
(Co p14 p15).bind fun y39=>
(p14[p15.toNat]?).bind fun y41=>
(Co (p14.set p15.toNat y37) p16).bind fun y43=>
((p14.set p15.toNat y37)[p16.toNat]?).bind fun y45=>
some (.inl (((p14.set p15.toNat y37).set p16.toNat y41),(IntKind.i64.wrap (p15+1)),(IntKind.i64.wrap (p16-1))))
else
some (.inr p14)
noncomputable def g152 (a0:List Aa) (a1:Int) (a2:Int) (is3:Aa→Aa→Option Int):Option (List Aa):=
(Bz (Xw) (a0,a1,(IntKind.i64.wrap (a2-1)))).bind fun r47=>
(match r47 with
| p33=>
some p33)
noncomputable def Xx (p156:Int) (p465:List Aa) (p466:Int):Option (((List Aa)×Int×Int)⊕((List Aa)⊕(Bool×(List Aa)))):=
some (.inl (p465,p466,(IntKind.i64.wrap (p156+1))))
noncomputable def Xz (a2:Int) (is3:Aa→Aa→Option Int) (p154:List Aa) (s:Int):Option ((Int)⊕(Int)):=
match s with
| p479=>
(if ((decide (p479<a2))==true)=true then Co p154 p479 else some default).bind fun y493=>
(if ((decide (p479<a2))==true)=true then p154[p479.toNat]? else some default).bind fun y495=>
(if ((decide (p479<a2))==true)=true then Co p154 (IntKind.i64.wrap (p479-1)) else some default).bind fun y497=>
(if ((decide (p479<a2))==true)=true then p154[(IntKind.i64.wrap (p479-1)).toNat]? else some default).bind fun y499=>
(if ((decide (p479<a2))==true)=true then is3 y495 y499 else some default).bind fun r501=>
if (bif (decide (p479<a2)) then (!(decide (r501<0))) else false)=true then
some (.inl (IntKind.i64.wrap (p479+1)))
else
some (.inr p479)
noncomputable def Ya (a2:Int) (is3:Aa→Aa→Option Int) (s:(List Aa)×Int):Option (((List Aa)×Int)⊕((List Aa))):=
match s with
| (p602,p603)=>
if (decide (p603<a2))=true then
(Co p602 p603).bind fun y632=>
(p602[p603.toNat]?).bind fun y634=>
(Co p602 (IntKind.i64.wrap (p603-1))).bind fun y636=>
(p602[(IntKind.i64.wrap (p603-1)).toNat]?).bind fun y638=>
(is3 y634 y638).bind fun r640=>
if (!(decide (r640<0)))=true then
some (.inr p602)
else
(Co p602 (IntKind.i64.wrap (p603-1))).bind fun y643=>
(p602[(IntKind.i64.wrap (p603-1)).toNat]?).bind fun y645=>
(Co p602 p603).bind fun y647=>
(p602[p603.toNat]?).bind fun y649=>
(Co (p602.set p603.toNat y645) (IntKind.i64.wrap (p603-1))).bind fun y651=>
((p602.set p603.toNat y645)[(IntKind.i64.wrap (p603-1)).toNat]?).bind fun y653=>
some (.inl (((p602.set p603.toNat y645).set ((IntKind.i64.wrap (p603-1)).toNat) y649),(IntKind.i64.wrap (p603+1))))
else
some (.inr p602)
noncomputable def Tj (a2:Int) (is3:Aa→Aa→Option Int) (p156:Int) (p492:Int) (p576:List Aa):Option (((List Aa)×Int×Int)⊕((List Aa)⊕(Bool×(List Aa)))):=
if (decide ((IntKind.i64.wrap (a2-p492))≥2))=true then
(Bz (Ya a2 is3) (p576,(IntKind.i64.wrap (p492+1)))).bind fun r655=>
(match r655 with
| p630=>
Xx p156 p630 p492)
else
Xx p156 p576 p492
noncomputable def Yb (is3:Aa→Aa→Option Int) (s:(List Aa)×Int):Option (((List Aa)×Int)⊕((List Aa))):=
match s with
| (p683,p684)=>
if (decide (p684≥1))=true then
(Co p683 p684).bind fun y713=>
(p683[p684.toNat]?).bind fun y715=>
(Co p683 (IntKind.i64.wrap (p684-1))).bind fun y717=>
(p683[(IntKind.i64.wrap (p684-1)).toNat]?).bind fun y719=>
(is3 y715 y719).bind fun r721=>
if (!(decide (r721<0)))=true then
some (.inr p683)
else
(Co p683 (IntKind.i64.wrap (p684-1))).bind fun y724=>
(p683[(IntKind.i64.wrap (p684-1)).toNat]?).bind fun y726=>
(Co p683 p684).bind fun y728=>
(p683[p684.toNat]?).bind fun y730=>
(Co (p683.set p684.toNat y726) (IntKind.i64.wrap (p684-1))).bind fun y732=>
((p683.set p684.toNat y726)[(IntKind.i64.wrap (p684-1)).toNat]?).bind fun y734=>
some (.inl (((p683.set p684.toNat y726).set ((IntKind.i64.wrap (p684-1)).toNat) y730),(IntKind.i64.wrap (p684-1))))
else
some (.inr p683)
noncomputable def Xy (a1:Int) (a2:Int) (is3:Aa→Aa→Option Int) (s:(List Aa)×Int×Int):Option (((List Aa)×Int×Int)⊕((List Aa)⊕(Bool×(List Aa)))):=
match s with
| (p154,p155,p156)=>
if (decide (p156<5))=true then
(Bz (Xz a2 is3 p154) p155).bind fun r504=>
(match r504 with
| p492=>
if (p492==a2)=true then
some (.inr (.inr (true,p154)))
else
if (decide ((IntKind.i64.wrap (a2-a1))<50))=true then
some (.inr (.inr (false,p154)))
else
(Co p154 (IntKind.i64.wrap (p492-1))).bind fun y508=>
(p154[(IntKind.i64.wrap (p492-1)).toNat]?).bind fun y510=>
(Co p154 p492).bind fun y512=>
(p154[p492.toNat]?).bind fun y514=>
(Co (p154.set p492.toNat y510) (IntKind.i64.wrap (p492-1))).bind fun y516=>
((p154.set p492.toNat y510)[(IntKind.i64.wrap (p492-1)).toNat]?).bind fun y518=>
Bs ((p154.set p492.toNat y510).set ((IntKind.i64.wrap (p492-1)).toNat) y514) fun v520=>
if (decide ((IntKind.i64.wrap (p492-a1))≥2))=true then
(Bz (Yb is3) (v520,(IntKind.i64.wrap (p492-1)))).bind fun r736=>
(match r736 with
| p711=>
Tj a2 is3 p156 p492 p711)
else
Tj a2 is3 p156 p492 v520)
else
some (.inr (.inl p154))
noncomputable def g153 (a0:List Aa) (a1:Int) (a2:Int) (is3:Aa→Aa→Option Int):Option (Bool×(List Aa)):=
(Bz (Xy a1 a2 is3) (a0,(IntKind.i64.wrap (a1+1)),0)).bind fun r738=>
(match r738 with
| .inl p313=>
some (false,p313)
| .inr q=>some q)
noncomputable def Yd (a1:Int) (is4:Aa→Aa→Option Int) (p84:List Aa) (p86:Int) (s:Int):Option ((Int)⊕(Int)):=
match s with
| p166=>
(if ((decide (p166≤p86))==true)=true then Co p84 a1 else some default).bind fun y180=>
(if ((decide (p166≤p86))==true)=true then p84[a1.toNat]? else some default).bind fun y182=>
(if ((decide (p166≤p86))==true)=true then Co p84 p166 else some default).bind fun y184=>
(if ((decide (p166≤p86))==true)=true then p84[p166.toNat]? else some default).bind fun y186=>
(if ((decide (p166≤p86))==true)=true then is4 y182 y186 else some default).bind fun r188=>
if (bif (decide (p166≤p86)) then (!(decide (r188<0))) else false)=true then
some (.inl (IntKind.i64.wrap (p166+1)))
else
some (.inr p166)
noncomputable def Ye (a1:Int) (is4:Aa→Aa→Option Int) (p84:List Aa) (p179:Int) (s:Int):Option ((Int)⊕(Int)):=
match s with
| p204=>
(if ((decide (p179≤p204))==true)=true then Co p84 a1 else some default).bind fun y218=>
(if ((decide (p179≤p204))==true)=true then p84[a1.toNat]? else some default).bind fun y220=>
(if ((decide (p179≤p204))==true)=true then Co p84 p204 else some default).bind fun y222=>
(if ((decide (p179≤p204))==true)=true then p84[p204.toNat]? else some default).bind fun y224=>
(if ((decide (p179≤p204))==true)=true then is4 y220 y224 else some default).bind fun r226=>
if (bif (decide (p179≤p204)) then (decide (r226<0)) else false)=true then
some (.inl (IntKind.i64.wrap (p204-1)))
else
some (.inr p204)
noncomputable def Yc (a1:Int) (is4:Aa→Aa→Option Int) (s:(List Aa)×Int×Int):Option (((List Aa)×Int×Int)⊕((List Aa)×Int)):=
match s with
| (p84,p85,p86)=>
(Bz (Yd a1 is4 p84 p86) p85).bind fun r191=>
(match r191 with
| p179=>
(Bz (Ye a1 is4 p84 p179) p86).bind fun r229=>
(match r229 with
| p217=>
if (decide (p179>p217))=true then
some (.inr (p84,p179))
else
(Co p84 p217).bind fun y232=>
(p84[p217.toNat]?).bind fun y234=>
(Co p84 p179).bind fun y236=>
(p84[p179.toNat]?).bind fun y238=>
(Co (p84.set p179.toNat y234) p217).bind fun y240=>
((p84.set p179.toNat y234)[p217.toNat]?).bind fun y242=>
some (.inl (((p84.set p179.toNat y234).set p217.toNat y238),(IntKind.i64.wrap (p179+1)),(IntKind.i64.wrap (p217-1))))))
noncomputable def g154 (a0:List Aa) (a1:Int) (a2:Int) (a3:Int) (is4:Aa→Aa→Option Int):Option (Int×(List Aa)):=
(Co a0 a3).bind fun y1=>
(a0[a3.toNat]?).bind fun y3=>
(Co a0 a1).bind fun y5=>
(a0[a1.toNat]?).bind fun y7=>
(Co (a0.set a1.toNat y3) a3).bind fun y9=>
((a0.set a1.toNat y3)[a3.toNat]?).bind fun y11=>
(Bz (Yc a1 is4) (((a0.set a1.toNat y3).set a3.toNat y7),(IntKind.i64.wrap (a1+1)),(IntKind.i64.wrap (a2-1)))).bind fun r244=>
(match r244 with
| (p153,p154)=>
some (p154,p153))
noncomputable def eJ (a0:List Aa) (a1:Int) (a2:Int) (a3:Int) (is4:Aa→Aa→Option Int) (y3:Aa) (y7:Aa) (s:Int):Option ((Int)⊕(Int)):=
match s with
| p26=>
(if ((decide (p26≤(IntKind.i64.wrap (a2-1))))==true)=true then Co ((a0.set a1.toNat y3).set a3.toNat y7) p26 else some default).bind fun y42=>
(if ((decide (p26≤(IntKind.i64.wrap (a2-1))))==true)=true then ((a0.set a1.toNat y3).set a3.toNat y7)[p26.toNat]? else some default).bind fun y44=>
(if ((decide (p26≤(IntKind.i64.wrap (a2-1))))==true)=true then Co ((a0.set a1.toNat y3).set a3.toNat y7) a1 else some default).bind fun y46=>
(if ((decide (p26≤(IntKind.i64.wrap (a2-1))))==true)=true then ((a0.set a1.toNat y3).set a3.toNat y7)[a1.toNat]? else some default).bind fun y48=>
(if ((decide (p26≤(IntKind.i64.wrap (a2-1))))==true)=true then is4 y44 y48 else some default).bind fun r50=>
Bs ((bif (decide (p26≤(IntKind.i64.wrap (a2-1)))) then (decide (r50<0)) else false)) fun v52=>
if v52=true then
some (.inl (IntKind.i64.wrap (p26+1)))
else
some (.inr p26)
noncomputable def eK (a0:List Aa) (a1:Int) (a3:Int) (is4:Aa→Aa→Option Int) (y3:Aa) (y7:Aa) (p41:Int) (s:Int):Option ((Int)⊕(Int)):=
match s with
| p70=>
(if ((decide (p41≤p70))==true)=true then Co ((a0.set a1.toNat y3).set a3.toNat y7) p70 else some default).bind fun y84=>
(if ((decide (p41≤p70))==true)=true then ((a0.set a1.toNat y3).set a3.toNat y7)[p70.toNat]? else some default).bind fun y86=>
(if ((decide (p41≤p70))==true)=true then Co ((a0.set a1.toNat y3).set a3.toNat y7) a1 else some default).bind fun y88=>
(if ((decide (p41≤p70))==true)=true then ((a0.set a1.toNat y3).set a3.toNat y7)[a1.toNat]? else some default).bind fun y90=>
(if ((decide (p41≤p70))==true)=true then is4 y86 y90 else some default).bind fun r92=>
if (bif (decide (p41≤p70)) then (!(decide (r92<0))) else false)=true then
some (.inl (IntKind.i64.wrap (p70-1)))
else
some (.inr p70)
noncomputable def Tl (a1:Int) (is4:Aa→Aa→Option Int) (p195:List Aa) (p197:Int) (s:Int):Option ((Int)⊕(Int)):=
match s with
| p277=>
(if ((decide (p277≤p197))==true)=true then Co p195 p277 else some default).bind fun y291=>
(if ((decide (p277≤p197))==true)=true then p195[p277.toNat]? else some default).bind fun y293=>
(if ((decide (p277≤p197))==true)=true then Co p195 a1 else some default).bind fun y295=>
(if ((decide (p277≤p197))==true)=true then p195[a1.toNat]? else some default).bind fun y297=>
(if ((decide (p277≤p197))==true)=true then is4 y293 y297 else some default).bind fun r299=>
if (bif (decide (p277≤p197)) then (decide (r299<0)) else false)=true then
some (.inl (IntKind.i64.wrap (p277+1)))
else
some (.inr p277)
noncomputable def Tm (a1:Int) (is4:Aa→Aa→Option Int) (p195:List Aa) (p290:Int) (s:Int):Option ((Int)⊕(Int)):=
match s with
| p315=>
(if ((decide (p290≤p315))==true)=true then Co p195 p315 else some default).bind fun y329=>
(if ((decide (p290≤p315))==true)=true then p195[p315.toNat]? else some default).bind fun y331=>
(if ((decide (p290≤p315))==true)=true then Co p195 a1 else some default).bind fun y333=>
(if ((decide (p290≤p315))==true)=true then p195[a1.toNat]? else some default).bind fun y335=>
(if ((decide (p290≤p315))==true)=true then is4 y331 y335 else some default).bind fun r337=>
if (bif (decide (p290≤p315)) then (!(decide (r337<0))) else false)=true then
some (.inl (IntKind.i64.wrap (p315-1)))
else
some (.inr p315)
noncomputable def Yf (a1:Int) (is4:Aa→Aa→Option Int) (s:(List Aa)×Int×Int):Option (((List Aa)×Int×Int)⊕((List Aa)×Int)):=
match s with
| (p195,p196,p197)=>
(Bz (Tl a1 is4 p195 p197) p196).bind fun r302=>
(match r302 with
| p290=>
(Bz (Tm a1 is4 p195 p290) p197).bind fun r340=>
(match r340 with
| p328=>
if (decide (p290>p328))=true then
some (.inr (p195,p328))
else
(Co p195 p328).bind fun y343=>
(p195[p328.toNat]?).bind fun y345=>
(Co p195 p290).bind fun y347=>
(p195[p290.toNat]?).bind fun y349=>
(Co (p195.set p290.toNat y345) p328).bind fun y351=>
((p195.set p290.toNat y345)[p328.toNat]?).bind fun y353=>
some (.inl (((p195.set p290.toNat y345).set p328.toNat y349),(IntKind.i64.wrap (p290+1)),(IntKind.i64.wrap (p328-1))))))
noncomputable def AH (a0:List Aa) (a1:Int) (a2:Int) (a3:Int) (is4:Aa→Aa→Option Int):Option (Int×Bool×(List Aa)):=
(Co a0 a3).bind fun y1=>
(a0[a3.toNat]?).bind fun y3=>
(Co a0 a1).bind fun y5=>
(a0[a1.toNat]?).bind fun y7=>
(Co (a0.set a1.toNat y3) a3).bind fun y9=>
((a0.set a1.toNat y3)[a3.toNat]?).bind fun y11=>
(Bz (eJ a0 a1 a2 a3 is4 y3 y7) (IntKind.i64.wrap (a1+1))).bind fun r55=>
(match r55 with
| p41=>
(Bz (eK a0 a1 a3 is4 y3 y7 p41) (IntKind.i64.wrap (a2-1))).bind fun r95=>
(match r95 with
| p83=>
if (decide (p41>p83))=true then
(Co ((a0.set a1.toNat y3).set a3.toNat y7) a1).bind fun y98=>
(((a0.set a1.toNat y3).set a3.toNat y7)[a1.toNat]?).bind fun y100=>
(Co ((a0.set a1.toNat y3).set a3.toNat y7) p83).bind fun y102=>
(((a0.set a1.toNat y3).set a3.toNat y7)[p83.toNat]?).bind fun y104=>
(Co (((a0.set a1.toNat y3).set a3.toNat y7).set p83.toNat y100) a1).bind fun y106=>
((((a0.set a1.toNat y3).set a3.toNat y7).set p83.toNat y100)[a1.toNat]?).bind fun y108=>
Bs ((((a0.set a1.toNat y3).set a3.toNat y7).set p83.toNat y100).set a1.toNat y104) fun v110=>
some (p83,true,v110)
else
(Co ((a0.set a1.toNat y3).set a3.toNat y7) p83).bind fun y112=>
(((a0.set a1.toNat y3).set a3.toNat y7)[p83.toNat]?).bind fun y114=>
(Co ((a0.set a1.toNat y3).set a3.toNat y7) p41).bind fun y116=>
(((a0.set a1.toNat y3).set a3.toNat y7)[p41.toNat]?).bind fun y118=>
(Co (((a0.set a1.toNat y3).set a3.toNat y7).set p41.toNat y114) p83).bind fun y120=>
((((a0.set a1.toNat y3).set a3.toNat y7).set p41.toNat y114)[p83.toNat]?).bind fun y122=>
Bs ((((a0.set a1.toNat y3).set a3.toNat y7).set p41.toNat y114).set p83.toNat y118) fun v124=>
(Bz (Yf a1 is4) (v124,(IntKind.i64.wrap (p41+1)),(IntKind.i64.wrap (p83-1)))).bind fun r355=>
(match r355 with
| (p264,p265)=>
(Co p264 a1).bind fun y357=>
(p264[a1.toNat]?).bind fun y359=>
(Co p264 p265).bind fun y361=>
(p264[p265.toNat]?).bind fun y363=>
(Co (p264.set p265.toNat y359) a1).bind fun y365=>
((p264.set p265.toNat y359)[a1.toNat]?).bind fun y367=>
some (p265,false,(p264.set p265.toNat y359).set a1.toNat y363))))
noncomputable def Te (is4:Aa→Aa→Option Int) (rc137:(List Aa)→Int→Int→Int→(Aa→Aa→Option Int)→Option (List Aa)) (p63:Int) (p64:Int) (p66:Bool) (p67:Bool) (p148:Int) (p158:Int) (p165:List Aa):Option (((List Aa)×Int×Int×Int×Bool×Bool)⊕((List Aa))):=
(if ((decide (p63>0))==true)=true then Co p165 (IntKind.i64.wrap (p63-1)) else some default).bind fun y166=>
(if ((decide (p63>0))==true)=true then p165[(IntKind.i64.wrap (p63-1)).toNat]? else some default).bind fun y168=>
(if ((decide (p63>0))==true)=true then Co p165 p158 else some default).bind fun y170=>
(if ((decide (p63>0))==true)=true then p165[p158.toNat]? else some default).bind fun y172=>
(if ((decide (p63>0))==true)=true then is4 y168 y172 else some default).bind fun r174=>
if (bif (decide (p63>0)) then (!(decide (r174<0))) else false)=true then
(g154 p165 p63 p64 p158 is4).bind fun r177=>
if r177.2.length=p165.length then
some (.inl (r177.2,r177.1,p64,p148,p66,p67))
else none
else
(AH p165 p63 p64 p158 is4).bind fun r180=>
if r180.2.2.length=p165.length then
Bs ((decide ((IntKind.i64.wrap (r180.1-p63))<(IntKind.i64.wrap (p64-r180.1))))) fun v183=>
if v183=true then
Bs ((decide ((IntKind.i64.wrap (r180.1-p63))≥(IntKind.i64.wrap (((IntKind.i64.wrap (p64-p63))).tdiv 8))))) fun v186=>
(rc137 r180.2.2 p63 r180.1 p148 is4).bind fun r188=>
if r188.length=r180.2.2.length then
some (.inl (r188,(IntKind.i64.wrap (r180.1+1)),p64,p148,v186,r180.2.1))
else none
else
Bs ((decide ((IntKind.i64.wrap (p64-r180.1))≥(IntKind.i64.wrap (((IntKind.i64.wrap (p64-p63))).tdiv 8))))) fun v191=>
(rc137 r180.2.2 (IntKind.i64.wrap (r180.1+1)) p64 p148 is4).bind fun r193=>
if r193.length=r180.2.2.length then
some (.inl (r193,p63,r180.1,p148,v191,r180.2.1))
else none
else none
noncomputable def Qp (is4:Aa→Aa→Option Int) (rc137:(List Aa)→Int→Int→Int→(Aa→Aa→Option Int)→Option (List Aa)) (p63:Int) (p64:Int) (p66:Bool) (p67:Bool) (p148:Int) (p157:List Aa) (p158:Int) (p159:Int):Option (((List Aa)×Int×Int×Int×Bool×Bool)⊕((List Aa))):=
if (bif (bif p66 then p67 else false) then (p159==1) else false)=true then
(g153 p157 p63 p64 is4).bind fun r198=>
if r198.2.length=p157.length then
if r198.1=true then
some (.inr r198.2)
else
Te is4 rc137 p63 p64 p66 p67 p148 p158 r198.2
else none
else
Te is4 rc137 p63 p64 p66 p67 p148 p158 p157
noncomputable def Lp (is4:Aa→Aa→Option Int) (rc137:(List Aa)→Int→Int→Int→(Aa→Aa→Option Int)→Option (List Aa)) (p63:Int) (p64:Int) (p66:Bool) (p67:Bool) (p147:List Aa) (p148:Int):Option (((List Aa)×Int×Int×Int×Bool×Bool)⊕((List Aa))):=
(g151 p147 p63 p64 is4).bind fun r149=>
if (r149.2==2)=true then
(g152 p147 p63 p64 is4).bind fun r204=>
if r204.length=p147.length then
Bs (IntKind.i64.wrap ((IntKind.i64.wrap (p64-1))-(IntKind.i64.wrap (r149.1-p63)))) fun v207=>
Qp is4 rc137 p63 p64 p66 p67 p148 r204 v207 1
else none
else
Qp is4 rc137 p63 p64 p66 p67 p148 p147 r149.1 r149.2
noncomputable def Kd (is4:Aa→Aa→Option Int) (rc137:(List Aa)→Int→Int→Int→(Aa→Aa→Option Int)→Option (List Aa)) (s:(List Aa)×Int×Int×Int×Bool×Bool):Option (((List Aa)×Int×Int×Int×Bool×Bool)⊕((List Aa))):=
match s with
| (p62,p63,p64,p65,p66,p67)=>
if (decide ((IntKind.i64.wrap (p64-p63))≤12))=true then
(g148 p62 p63 p64 is4).bind fun r136=>
if r136.length=p62.length then
some (.inr r136)
else none
else
if (p65==0)=true then
(g149 p62 p63 p64 is4).bind fun r140=>
if r140.length=p62.length then
some (.inr r140)
else none
else
if (!p66)=true then
(qJ p62 p63 p64 is4).bind fun r211=>
if r211.length=p62.length then
Lp is4 rc137 p63 p64 p66 p67 r211 (IntKind.i64.wrap (p65-1))
else none
else
Lp is4 rc137 p63 p64 p66 p67 p62 p65
noncomputable def Vj (rc137:(List Aa)→Int→Int→Int→(Aa→Aa→Option Int)→Option (List Aa)) (a0:List Aa) (a1:Int) (a2:Int) (a3:Int) (is4:Aa→Aa→Option Int):Option (List Aa):=
(Bz (Kd is4 rc137) (a0,a1,a2,a3,true,true)).bind fun r214=>
(match r214 with
| q=>some q)
noncomputable def kX (n:Nat):(List Aa)→Int→Int→Int→(Aa→Aa→Option Int)→Option (List Aa):=Nat.rec (fun _ _ _ _ _=>none) (fun _ rc=>Vj rc) n
noncomputable def AC (a0:List Aa) (is1:Aa→Aa→Option Int):Option (List Aa):=
(AE (IntKind.u64.wrap (a0.length:Int))).bind fun r1=>
(kX Oi a0 0 (a0.length:Int) r1 is1).bind fun r3=>
if r3.length=a0.length then
some r3
else none
noncomputable def Zr (p21:Int) (p58:List Aa) (p59:List Aa):Option (((List Aa)×(List Aa)×Int)⊕((List Aa)×(List Aa))):=
some (.inl (p58,p59,(IntKind.i64.wrap (p21+1))))
noncomputable def Sc (a0:Ak) (a1:Int) (r1:Ak) (s:(List Aa)×(List Aa)×Int):Option (((List Aa)×(List Aa)×Int)⊕((List Aa)×(List Aa))):=
match s with
| (p19,p20,p21)=>
if (decide (p21<(r1.Ae.length:Int)))=true then
(Co p20 p21).bind fun y62=>
(p20[p21.toNat]?).bind fun y64=>
Bs ((bif (!y64.Cj) then (decide (y64.Bm≤(if a1>a0.clock then a1 else a0.clock))) else false)) fun v66=>
if v66=true then
(Co p20 p21).bind fun y69=>
(p20[p21.toNat]?).bind fun y71=>
if (p19.length+([y64]:List Aa).length)*32≤140737488355328 then
Zr p21 (p19++([y64]:List Aa)) (p20.set p21.toNat (Aa.mk y71.id y71.Bm y71.cap true))
else none
else
Zr p21 p19 p20
else
some (.inr (p19,p20))
noncomputable def g82 (a0:Ak) (a1:Int):Option (Ak×(List Int)):=
(eF a0).bind fun r1=>
(Bz (Sc a0 a1 r1) ([],r1.Ae,0)).bind fun r74=>
(match r74 with
| (p43,p44)=>
(AC p43 (fun z69_0 z69_1=>g69 z69_0 z69_1)).bind fun r76=>
if r76.length=p43.length then
(g60 (Ak.mk 0 0 r76)).bind fun r79=>
some ((Ak.mk (if a1>a0.clock then a1 else a0.clock) r1.next p44),r79)
else none)
noncomputable def lR (a0:Am) (a1:Cu):Option Bool:=
some (bif (a0.stop==2) then (a1.Gs==1) else false)
noncomputable def oE (a0:List Ah) (is1:Ah→Option Bool) (s:Int):Option ((Int)⊕(Unit⊕Int)):=
match s with
| p7=>
if (decide (p7<(a0.length:Int)))=true then
(Co a0 p7).bind fun y16=>
(is1 y16).bind fun r18=>
if r18=true then
some (.inr (.inr p7))
else
some (.inl (IntKind.i64.wrap (p7+1)))
else
some (.inr (.inl ()))
noncomputable def g475 (a0:List Ah) (is1:Ah→Option Bool):Option Int:=
(Bz (oE a0 is1) 0).bind fun r21=>
(match r21 with
| .inl ()=>
some (-1)
| .inr q=>some q)
noncomputable def eX (p20:Int) (p52:List Ah) (p53:Int):Option (((List Ah)×Int×Int)⊕((List Ah)×Int)):=
some (.inl (p52,p53,(IntKind.i64.wrap (p20+1))))
noncomputable def oD (is1:Ah→Option Bool) (s:(List Ah)×Int×Int):Option (((List Ah)×Int×Int)⊕((List Ah)×Int)):=
match s with
| (p18,p19,p20)=>
if (decide (p20<(p18.length:Int)))=true then
(Co p18 p20).bind fun y55=>
(p18[p20.toNat]?).bind fun y57=>
(is1 y57).bind fun r59=>
if (!r59)=true then
(Co p18 p19).bind fun y62=>
(p18[p19.toNat]?).bind fun y64=>
eX p20 (p18.set p19.toNat y57) (IntKind.i64.wrap (p19+1))
else
eX p20 p18 p19
else
some (.inr (p18,p19))
noncomputable def AM (a0:List Ah) (is1:Ah→Option Bool):Option (List Ah):=
(g475 a0 is1).bind fun r1=>
if (r1==(-1))=true then
some a0
else
(Bz (oD is1) (a0,r1,(IntKind.i64.wrap (r1+1)))).bind fun r66=>
(match r66 with
| (p38,p39)=>
(bQ p38 p39 (p38.length:Int)).bind fun s68=>
(bQ (ovl p38 p39.toNat (List.replicate s68.length (Ah.mk 0 false))) 0 p39).bind fun s70=>
some s70)
noncomputable def AN (a0:Ah) (a1:Ah):Option Bool:=
some (a0.As==a1.As)
noncomputable def Tp (p43:Int) (p143:Int) (p144:Int) (p145:List Aa) (p146:List Ah) (p147:List Int) (p148:Bool) (p149:Int) (p150:Int) (p151:Int) (p152:Int) (p153:Int) (p154:List Int) (p155:Int) (p156:Int):Option ((Int×Int×Int×(List Aa)×(List Ah)×(List Int)×Bool×Int×Int×Int×Int×Int×(List Int)×Int×Int)⊕((Int×Int×(List Aa)×(List Ah)×(List Int)×Bool×Int×Int×Int×Int×Int×(List Int)×Int×Int)⊕(Aj×Ao))):=
some (.inl ((IntKind.i64.wrap (p43+1)),p143,p144,p145,p146,p147,p148,p149,p150,p151,p152,p153,p154,p155,p156))
noncomputable def Qs (a1:Am) (p43:Int) (r163:Int×Cu) (p170:Int) (p171:Int) (p172:List Aa):Option ((Int×Int×Int×(List Aa)×(List Ah)×(List Int)×Bool×Int×Int×Int×Int×Int×(List Int)×Int×Int)⊕((Int×Int×(List Aa)×(List Ah)×(List Int)×Bool×Int×Int×Int×Int×Int×(List Int)×Int×Int)⊕(Aj×Ao))):=
(lR a1 (Cu.mk (Aj.mk (Ak.mk p170 p171 p172) r163.2.v.Ab r163.2.v.Ai r163.2.v.Al) r163.2.a r163.2.Gs)).bind fun r173=>
if r173=true then
(eV (Aj.mk (Ak.mk p170 p171 p172) r163.2.v.Ab r163.2.v.Ai r163.2.v.Al)).bind fun r176=>
some (.inr (.inr (r176.1,r176.2)))
else
Tp p43 p170 p171 p172 r163.2.v.Ab r163.2.v.Ai r163.2.v.Al r163.2.a.kind r163.2.a.id r163.2.a.ttl r163.2.a.Ef r163.2.a.clock r163.2.a.Cb r163.2.a.stop r163.2.Gs
noncomputable def Kf (a1:Am) (r6:(List Aa)) (s:Int×Int×Int×(List Aa)×(List Ah)×(List Int)×Bool×Int×Int×Int×Int×Int×(List Int)×Int×Int):Option ((Int×Int×Int×(List Aa)×(List Ah)×(List Int)×Bool×Int×Int×Int×Int×Int×(List Int)×Int×Int)⊕((Int×Int×(List Aa)×(List Ah)×(List Int)×Bool×Int×Int×Int×Int×Int×(List Int)×Int×Int)⊕(Aj×Ao))):=
match s with
| (p43,p44,p45,p46,p47,p48,p49,p50,p51,p52,p53,p54,p55,p56,p57)=>
if (decide (p43<(r6.length:Int)))=true then
(Co r6 p43).bind fun y158=>
(r6[p43.toNat]?).bind fun y160=>
if (!y160.Cj)=true then
Tp p43 p44 p45 p46 p47 p48 p49 p50 p51 p52 p53 p54 p55 p56 p57
else
(eW (Cu.mk (Aj.mk (Ak.mk p44 p45 p46) p47 p48 p49) (Am.mk p50 p51 p52 p53 p54 p55 p56) p57) y160.id false).bind fun r163=>
(ED r163.2.v.Ad y160.id).bind fun r165=>
if (r163.1==0)=true then
(g78 r163.2.v.Ad r165.1).bind fun r180=>
Qs a1 p43 r163 r180.clock r180.next r180.Ae
else
Qs a1 p43 r163 r163.2.v.Ad.clock r163.2.v.Ad.next r163.2.v.Ad.Ae
else
some (.inr (.inl (p44,p45,p46,p47,p48,p49,p50,p51,p52,p53,p54,p55,p56,p57)))
noncomputable def Tq (p217:Int) (p309:Int) (p310:Int) (p311:List Aa) (p312:List Ah) (p313:List Int) (p314:Bool) (p315:Int) (p316:Int) (p317:Int) (p318:Int) (p319:Int) (p320:List Int) (p321:Int) (p322:Int):Option ((Int×Int×Int×(List Aa)×(List Ah)×(List Int)×Bool×Int×Int×Int×Int×Int×(List Int)×Int×Int)⊕((Int×Int×(List Aa)×(List Ah)×(List Int)×Bool×Int×Int×Int×Int×Int×(List Int)×Int×Int)⊕(Aj×Ao))):=
some (.inl ((IntKind.i64.wrap (p217+1)),p309,p310,p311,p312,p313,p314,p315,p316,p317,p318,p319,p320,p321,p322))
noncomputable def Qt (a1:Am) (p217:Int) (r329:Int×Cu) (p334:List Ah):Option ((Int×Int×Int×(List Aa)×(List Ah)×(List Int)×Bool×Int×Int×Int×Int×Int×(List Int)×Int×Int)⊕((Int×Int×(List Aa)×(List Ah)×(List Int)×Bool×Int×Int×Int×Int×Int×(List Int)×Int×Int)⊕(Aj×Ao))):=
(lR a1 (Cu.mk (Aj.mk r329.2.v.Ad p334 r329.2.v.Ai r329.2.v.Al) r329.2.a r329.2.Gs)).bind fun r335=>
if r335=true then
(eV (Aj.mk r329.2.v.Ad p334 r329.2.v.Ai r329.2.v.Al)).bind fun r338=>
some (.inr (.inr (r338.1,r338.2)))
else
Tq p217 r329.2.v.Ad.clock r329.2.v.Ad.next r329.2.v.Ad.Ae p334 r329.2.v.Ai r329.2.v.Al r329.2.a.kind r329.2.a.id r329.2.a.ttl r329.2.a.Ef r329.2.a.clock r329.2.a.Cb r329.2.a.stop r329.2.Gs
noncomputable def Ik (a1:Am) (r184:(List Ah)) (s:Int×Int×Int×(List Aa)×(List Ah)×(List Int)×Bool×Int×Int×Int×Int×Int×(List Int)×Int×Int):Option ((Int×Int×Int×(List Aa)×(List Ah)×(List Int)×Bool×Int×Int×Int×Int×Int×(List Int)×Int×Int)⊕((Int×Int×(List Aa)×(List Ah)×(List Int)×Bool×Int×Int×Int×Int×Int×(List Int)×Int×Int)⊕(Aj×Ao))):=
match s with
| (p217,p218,p219,p220,p221,p222,p223,p224,p225,p226,p227,p228,p229,p230,p231)=>
if (decide (p217<(r184.length:Int)))=true then
(Co r184 p217).bind fun y324=>
(r184[p217.toNat]?).bind fun y326=>
if (!y326.Md)=true then
Tq p217 p218 p219 p220 p221 p222 p223 p224 p225 p226 p227 p228 p229 p230 p231
else
(eW (Cu.mk (Aj.mk (Ak.mk p218 p219 p220) p221 p222 p223) (Am.mk p224 p225 p226 p227 p228 p229 p230) p231) y326.As false).bind fun r329=>
if (r329.1==0)=true then
(AM r329.2.v.Ab (fun z474_0=>AN z474_0 y326)).bind fun r342=>
Qt a1 p217 r329 r342
else
Qt a1 p217 r329 r329.2.v.Ab
else
some (.inr (.inl (p218,p219,p220,p221,p222,p223,p224,p225,p226,p227,p228,p229,p230,p231)))
noncomputable def g467 (a0:Aj) (a1:Am):Option (Aj×Ao):=
(g82 a0.Ad a1.clock).bind fun r1=>
if (a1.stop==1)=true then
(eV (Aj.mk r1.1 a0.Ab a0.Ai a0.Al)).bind fun r4=>
some (r4.1,r4.2)
else
(g66 r1.1.Ae).bind fun r6=>
(Bz (Kf a1 r6) (0,r1.1.clock,r1.1.next,r1.1.Ae,a0.Ab,a0.Ai,a0.Al,a1.kind,a1.id,a1.ttl,a1.Ef,a1.clock,a1.Cb,a1.stop,0)).bind fun r182=>
(match r182 with
| .inl (p108,p109,p110,p111,p112,p113,p114,p115,p116,p117,p118,p119,p120,p121)=>
(lQ p111).bind fun r184=>
(Bz (Ik a1 r184) (0,p108,p109,p110,p111,p112,p113,p114,p115,p116,p117,p118,p119,p120,p121)).bind fun r344=>
(match r344 with
| .inl (p278,p279,p280,p281,p282,p283,p284,p285,p286,p287,p288,p289,p290,p291)=>
some ((Aj.mk (Ak.mk p278 p279 p280) p281 p282 p283),(Ao.mk 0 0))
| .inr q=>some q)
| .inr q=>some q)
noncomputable def iJ (a0:Aj) (a1:Am):Option (Aj×Ao):=
(g463 a0).bind fun r1=>
(qM a1.kind 1 6).bind fun r3=>
if (!r3)=true then
(bT r1 16).bind fun r6=>
some (r6.1,r6.2)
else
if (bif r1.Al then (a1.kind != 6) else false)=true then
(bT r1 14).bind fun r9=>
some (r9.1,r9.2)
else
if (a1.kind==1)=true then
(g465 r1 a1).bind fun r12=>
some (r12.1,r12.2)
else
if (a1.kind==2)=true then
(g80 r1.Ad a1.id a1.ttl).bind fun r15=>
(AL r1 r15.1 r15.2).bind fun r17=>
some (r17.1,r17.2)
else
if (a1.kind==3)=true then
(g75 r1.Ad a1.id).bind fun r20=>
(AL r1 r20.1 r20.2).bind fun r22=>
some (r22.1,r22.2)
else
if (a1.kind==4)=true then
(g467 r1 a1).bind fun r25=>
some (r25.1,r25.2)
else
some ((Aj.mk r1.Ad r1.Ab r1.Ai (a1.kind==5)),(Ao.mk 0 0))
noncomputable def lP (a0:Aj) (a1:Am):Option (Aj×Ao×Int):=
(g48 a0).bind fun r1=>
(if ((!r1)==false)=true then g457 a1 else some default).bind fun r3=>
if (bif (!r1) then true else (!r3))=true then
some ((Aj.mk (Ak.mk 0 0 ([]:List Aa)) ([]:List Ah) ([]:List Int) false),(Ao.mk 0 0),1)
else
(iJ a0 a1).bind fun r6=>
some (r6.1,r6.2,0)
noncomputable def Yi (p7:Int) (p20:Int):Option ((Int×Int)⊕(Int)):=
some (.inl (p20,(IntKind.i64.wrap (p7+1))))
noncomputable def Qr (a0:Aj) (s:Int×Int):Option ((Int×Int)⊕(Int)):=
match s with
| (p6,p7)=>
if (decide (p7<(a0.Ab.length:Int)))=true then
(Co a0.Ab p7).bind fun y22=>
if (!y22.Md)=true then
Yi p7 (IntKind.i64.wrap (p6+1))
else
Yi p7 p6
else
some (.inr p6)
noncomputable def g441 (a0:Aj):Option Int:=
(Bz (Qr a0) (0,0)).bind fun r25=>
(match r25 with
| p15=>
some p15)
noncomputable def g434 (a0:List UInt8):Option Bool:=
if (decide ((a0.length:Int)>1048576))=true then
some true
else
(g51 a0).bind fun r2=>
(g50 r2).bind fun r4=>
(lP r4.1 (Am.mk 6 0 0 0 0 ([]:List Int) 0)).bind fun r6=>
(lP r6.1 (Am.mk 4 0 0 0 9223372036854775807 ([]:List Int) 0)).bind fun r8=>
(if ((bif (bif (bif (r6.2.2==0) then (r8.2.2==0) else false) then (r8.1.Ad.clock==9223372036854775807) else false) then ((r8.1.Ad.Ae.length:Int)==0) else false)==true)=true then g441 r4.1 else some default).bind fun r10=>
Bs ((bif (bif (bif (bif (bif (r6.2.2==0) then (r8.2.2==0) else false) then (r8.1.Ad.clock==9223372036854775807) else false) then ((r8.1.Ad.Ae.length:Int)==0) else false) then ((r8.1.Ab.length:Int)==r10) else false) then ((r8.1.Ai.length:Int)==0) else false)) fun v12=>
some v12
noncomputable def eT (a0:Ak) (s:Int):Option ((Int)⊕(Unit⊕Bool)):=
match s with
| p16=>
if (decide (p16<(a0.Ae.length:Int)))=true then
(Co a0.Ae p16).bind fun y29=>
(oF y29.id 1 (IntKind.i64.wrap (a0.next-1))).bind fun r31=>
(if (((!r31)==false)&&((decide (p16>0))==true))=true then Co a0.Ae (IntKind.i64.wrap (p16-1)) else some default).bind fun y33=>
Bs ((bif (bif (bif (bif (!r31) then true else (bif (decide (p16>0)) then (decide (y33.id≥y29.id)) else false)) then true else (decide (y29.Bm<0))) then true else (decide (y29.Bm>y29.cap))) then true else (bif (!y29.Cj) then (decide (y29.Bm≤a0.clock)) else false))) fun v35=>
if v35=true then
some (.inr (.inr false))
else
some (.inl (IntKind.i64.wrap (p16+1)))
else
some (.inr (.inl ()))
noncomputable def g18 (a0:Ak):Option Bool:=
(if ((decide (a0.clock<0))==false)=true then oF a0.next 1 1000000 else some default).bind fun r1=>
Bs ((bif (bif (decide (a0.clock<0)) then true else (!r1)) then true else (decide ((a0.Ae.length:Int)>40)))) fun v3=>
if v3=true then
some false
else
(Bz (eT a0) 0).bind fun r38=>
(match r38 with
| .inl ()=>
some true
| .inr q=>some q)
noncomputable def fE (a0:List Int) (a1:Int) (s:Int):Option ((Int)⊕(Unit⊕Bool)):=
match s with
| p13=>
if (decide (p13<(a0.length:Int)))=true then
(Co a0 p13).bind fun y28=>
(oF y28 1 (IntKind.i64.wrap (a1-1))).bind fun r30=>
(if (((!r30)==false)&&((decide (p13>0))==true))=true then Co a0 (IntKind.i64.wrap (p13-1)) else some default).bind fun y32=>
(if (((!r30)==false)&&((decide (p13>0))==true))=true then Co a0 p13 else some default).bind fun y34=>
Bs ((bif (!r30) then true else (bif (decide (p13>0)) then (decide (y32≥y34)) else false))) fun v36=>
if v36=true then
some (.inr (.inr false))
else
some (.inl (IntKind.i64.wrap (p13+1)))
else
some (.inr (.inl ()))
noncomputable def g85 (a0:List Int) (a1:Int):Option Bool:=
(Bz (fE a0 a1) 0).bind fun r39=>
(match r39 with
| .inl ()=>
some true
| .inr q=>some q)
noncomputable def eG (a0:Aj) (a1:Int) (s:Int):Option ((Int)⊕(Unit⊕Int)):=
match s with
| p5=>
if (decide (p5<(a0.Ab.length:Int)))=true then
(Co a0.Ab p5).bind fun y12=>
if (y12.As==a1)=true then
some (.inr (.inr p5))
else
some (.inl (IntKind.i64.wrap (p5+1)))
else
some (.inr (.inl ()))
noncomputable def g124 (a0:Aj) (a1:Int):Option Int:=
(Bz (eG a0 a1) 0).bind fun r15=>
(match r15 with
| .inl ()=>
some (-1)
| .inr q=>some q)
noncomputable def lV (a0:Aj) (s:Int):Option ((Int)⊕(Unit⊕Int)):=
match s with
| p13=>
if (decide (p13<(a0.Ai.length:Int)))=true then
(Co a0.Ai p13).bind fun y28=>
(EE a0.Ad y28).bind fun r30=>
(if ((decide (r30<0))==true)=true then Co a0.Ai p13 else some default).bind fun y32=>
(if ((decide (r30<0))==true)=true then g124 a0 y32 else some default).bind fun r34=>
if (bif (decide (r30<0)) then (decide (r34<0)) else false)=true then
(Co a0.Ai p13).bind fun y37=>
some (.inr (.inr y37))
else
some (.inl (IntKind.i64.wrap (p13+1)))
else
some (.inr (.inl ()))
noncomputable def g93 (a0:Aj):Option Int:=
(Bz (lV a0) 0).bind fun r39=>
(match r39 with
| .inl ()=>
some 0
| .inr q=>some q)
noncomputable def eU (a0:Aj) (s:Int):Option ((Int)⊕(Unit⊕Bool)):=
match s with
| p20=>
if (decide (p20<(a0.Ab.length:Int)))=true then
(Co a0.Ab p20).bind fun y35=>
(oF y35.As 1 (IntKind.i64.wrap (a0.Ad.next-1))).bind fun r37=>
(if (((!r37)==false)&&((decide (p20>0))==true))=true then Co a0.Ab (IntKind.i64.wrap (p20-1)) else some default).bind fun y39=>
(if ((bif (!r37) then true else (bif (decide (p20>0)) then (decide (y39.As≥y35.As)) else false))==false)=true then EE a0.Ad y35.As else some default).bind fun r41=>
Bs ((bif (bif (!r37) then true else (bif (decide (p20>0)) then (decide (y39.As≥y35.As)) else false)) then true else (decide (r41≥0)))) fun v43=>
if v43=true then
some (.inr (.inr false))
else
some (.inl (IntKind.i64.wrap (p20+1)))
else
some (.inr (.inl ()))
noncomputable def g46 (a0:Aj):Option Bool:=
(g18 a0.Ad).bind fun r1=>
(if ((bif (bif (!r1) then true else (decide ((a0.Ab.length:Int)>40))) then true else (decide ((a0.Ai.length:Int)>80)))==false)=true then g85 a0.Ai a0.Ad.next else some default).bind fun r3=>
Bs ((bif (bif (bif (!r1) then true else (decide ((a0.Ab.length:Int)>40))) then true else (decide ((a0.Ai.length:Int)>80))) then true else (!r3))) fun v5=>
if v5=true then
some false
else
(Bz (eU a0) 0).bind fun r46=>
(match r46 with
| .inl ()=>
(g93 a0).bind fun r48=>
some (r48==0)
| .inr q=>some q)
end Go.Ev
