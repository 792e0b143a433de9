/- Functions with the answers of the program's, written by a program of ours. -/
import Derived.Test.YtfpbbpkdjmldkaaGreatQvG
import Derived.Test.YtfpbbpkdjmldkaaGreatQvK
set_option linter.all false
set_option maxHeartbeats 4000000
set_option linter.unusedVariables false
set_option maxRecDepth 100000
namespace Go.Ev
structure Af where
  id:Int
  Bn:Int
  cap:Int
  Cg:Bool
  deriving Inhabited,DecidableEq
def KT (x:Af):Prop:=Oh x.id∧Oh x.Bn∧Oh x.cap∧Rn x.Cg
def Bg (x:Af):List V:=[.int .i64 x.id,.int .i64 x.Bn,.int .i64 x.cap,.bool x.Cg]
structure Ak where
  clock:Int
  next:Int
  Ac:List Af
  deriving Inhabited,DecidableEq
def KU (x:Ak):Prop:=Oh x.clock∧Oh x.next∧(KW KT) x.Ac
def Bh (x:Ak):List V:=[.int .i64 x.clock,.int .i64 x.next,.lst 4 (x.Ac.map Bg)]
structure Ad where
  Bb:Int
  Ij:Bool
  deriving Inhabited,DecidableEq
def xS (x:Ad):Prop:=Oh x.Bb∧Rn x.Ij
def Cd (x:Ad):List V:=[.int .i64 x.Bb,.bool x.Ij]
structure Ag where
  Ab:Ak
  Aa:List Ad
  Ae:List Int
  Ai:Bool
  deriving Inhabited,DecidableEq
def KV (x:Ag):Prop:=KU x.Ab∧(KW xS) x.Aa∧(KW Oh) x.Ae∧Rn x.Ai
def Ax (x:Ag):List V:=[.int .i64 x.Ab.clock,.int .i64 x.Ab.next,.lst 4 (x.Ab.Ac.map Bg),.lst 2 (x.Aa.map Cd),.lst 1 (x.Ae.map eI),.bool x.Ai]
structure Aj where
  kind:Int
  id:Int
  ttl:Int
  Fd:Int
  clock:Int
  Cp:List Int
  stop:Int
  deriving Inhabited,DecidableEq
def nN (x:Aj):Prop:=Oh x.kind∧Oh x.id∧Oh x.ttl∧Oh x.Fd∧Oh x.clock∧(KW Oh) x.Cp∧Oh x.stop
def Ao (x:Aj):List V:=[.int .i64 x.kind,.int .i64 x.id,.int .i64 x.ttl,.int .i64 x.Fd,.int .i64 x.clock,.lst 1 (x.Cp.map eI),.int .i64 x.stop]
structure Am where
  code_:Int
  id:Int
  deriving Inhabited,DecidableEq
def NI (x:Am):Prop:=Oh x.code_∧Oh x.id
def Bp (x:Am):List V:=[.int .i64 x.code_,.int .i64 x.id]
structure Bz where
  code_:List UInt8
  at_:Int
  Fv:Int
  deriving Inhabited,DecidableEq
def okDl00Src (x:Bz):Prop:=(KW Rn) x.code_∧Oh x.at_∧Oh x.Fv
def Br (x:Bz):List V:=[.lst 1 (x.code_.map Gh),.int .i64 x.at_,.int .i64 x.Fv]
structure Aw where
  at_:Int
  data:List UInt8
  deriving Inhabited,DecidableEq
def xU (x:Aw):Prop:=Oh x.at_∧(KW Rn) x.data
def Du (x:Aw):List V:=[.int .i64 x.at_,.lst 1 (x.data.map Gh)]
structure Ay where
  held:List UInt8
  Av:List Aw
  deriving Inhabited,DecidableEq
def okDDevice (x:Ay):Prop:=(KW Rn) x.held∧(KW xU) x.Av
def Ch (x:Ay):List V:=[.lst 1 (x.held.map Gh),.lst 2 (x.Av.map Du)]
structure Bd where
  key:List UInt8
  value:List UInt8
  deriving Inhabited,DecidableEq
def okDPair (x:Bd):Prop:=nO x.key∧nO x.value
def Cn (x:Bd):List V:=[.str x.key,.str x.value]
structure Ar where
  key:List UInt8
  value:List UInt8
  Li:Bool
  deriving Inhabited,DecidableEq
def okDChange (x:Ar):Prop:=nO x.key∧nO x.value∧Rn x.Li
def Dn (x:Ar):List V:=[.str x.key,.str x.value,.bool x.Li]
structure Dp where
  v:Ag
  a:Aj
  Hl:Int
  deriving Inhabited,DecidableEq
def okDrunner (x:Dp):Prop:=KV x.v∧nN x.a∧Oh x.Hl
def mH (x:Dp):List V:=[.int .i64 x.v.Ab.clock,.int .i64 x.v.Ab.next,.lst 4 (x.v.Ab.Ac.map Bg),.lst 2 (x.v.Aa.map Cd),.lst 1 (x.v.Ae.map eI),.bool x.v.Ai,.int .i64 x.a.kind,.int .i64 x.a.id,.int .i64 x.a.ttl,.int .i64 x.a.Fd,.int .i64 x.a.clock,.lst 1 (x.a.Cp.map eI),.int .i64 x.a.stop,.int .i64 x.Hl]
noncomputable def g56 (a0:Int) (a1:Int) (a2:Int):Option Bool:=
some (bif (decide (a0≥a1)) then (decide (a0≤a2)) else false)
noncomputable def Sg (a0:Aj) (s:Int):Option ((Int)⊕(Unit⊕Bool)):=
match s with
| p10=>
if (decide (p10<(a0.Cp.length:Int)))=true then
(El a0.Cp p10).bind fun y19=>
(g56 y19 0 2).bind fun r21=>
if (!r21)=true then
some (.inr (.inr false))
else
some (.inl (IntKind.i64.wrap (p10+1)))
else
some (.inr (.inl ()))
noncomputable def AkL (a0:Aj):Option Bool:=
(if ((decide ((a0.Cp.length:Int)>4096))==false)=true then g56 a0.stop 0 2 else some default).bind fun r1=>
if (bif (decide ((a0.Cp.length:Int)>4096)) then true else (!r1))=true then
some false
else
(Ce (Sg a0) 0).bind fun r24=>
(match r24 with
| .inl ()=>
some true
| .inr q=>some q)
noncomputable def jZ (a0:Ak) (a1:Int) (s:Int):Option ((Int)⊕(Unit⊕Int)):=
match s with
| p5=>
if (decide (p5<(a0.Ac.length:Int)))=true then
(El a0.Ac p5).bind fun y12=>
if (y12.id==a1)=true then
some (.inr (.inr p5))
else
some (.inl (IntKind.i64.wrap (p5+1)))
else
some (.inr (.inl ()))
noncomputable def g92 (a0:Ak) (a1:Int):Option Int:=
(Ce (jZ a0 a1) 0).bind fun r15=>
(match r15 with
| .inl ()=>
some (-1)
| .inr q=>some q)
noncomputable def mN (a0:Ak):Option Ak:=
if (([]:List Af).length+a0.Ac.length)*32≤140737488355328 then
some (Ak.mk a0.clock a0.next (([]:List Af)++a0.Ac))
else none
noncomputable def g74 (a0:Ak) (a1:Int):Option (Ak×Int):=
(g92 a0 a1).bind fun r1=>
if (decide (r1<0))=true then
some (a0,5)
else
(mN a0).bind fun r4=>
(El r4.Ac r1).bind fun y6=>
(r4.Ac[r1.toNat]?).bind fun y8=>
some ((Ak.mk r4.clock r4.next (r4.Ac.set r1.toNat (Af.mk y8.id y8.Bn y8.cap true))),0)
noncomputable def g53 (a0:Int) (a1:Int):Option Int:=
if (decide (a0>(IntKind.i64.wrap (9223372036854775807-a1))))=true then
some 9223372036854775807
else
some (IntKind.i64.wrap (a0+a1))
noncomputable def g79 (a0:Ak) (a1:Int) (a2:Int):Option (Ak×Int):=
(g92 a0 a1).bind fun r1=>
if (decide (a2<1))=true then
some (a0,4)
else
if (decide (r1<0))=true then
some (a0,5)
else
(El a0.Ac r1).bind fun y5=>
if y5.Cg=true then
some (a0,13)
else
(mN a0).bind fun r8=>
(El r8.Ac r1).bind fun y10=>
(r8.Ac[r1.toNat]?).bind fun y12=>
(g53 a0.clock a2).bind fun r14=>
some ((Ak.mk r8.clock r8.next (r8.Ac.set r1.toNat (Af.mk y12.id (if r14<y12.cap then r14 else y12.cap) y12.cap y12.Cg))),0)
noncomputable def Yh (p103:Int) (p132:Int):Option ((Int×Int)⊕(Int)):=
some (.inl (p132,(IntKind.i64.wrap (p103+1))))
noncomputable def cW (a0:Ak) (a1:Int) (p45:List Af) (s:Int×Int):Option ((Int×Int)⊕(Int)):=
match s with
| (p102,p103)=>
if (decide (p103<(p45.length:Int)))=true then
(El p45 p103).bind fun y134=>
(p45[p103.toNat]?).bind fun y136=>
(if (((bif (!y136.Cg) then (decide (y136.Bn≤(if a1>a0.clock then a1 else a0.clock))) else false)==true)&&((decide (p102<0))==false))=true then El p45 p102 else some default).bind fun y138=>
(if (((bif (!y136.Cg) then (decide (y136.Bn≤(if a1>a0.clock then a1 else a0.clock))) else false)==true)&&((decide (p102<0))==false))=true then p45[p102.toNat]? else some default).bind fun y140=>
Bs ((bif (bif (!y136.Cg) then (decide (y136.Bn≤(if a1>a0.clock then a1 else a0.clock))) else false) then (bif (decide (p102<0)) then true else (decide (y136.Bn<y140.Bn))) else false)) fun v142=>
if v142=true then
Yh p103 p103
else
Yh p103 p102
else
some (.inr p102)
noncomputable def jY (a0:Ak) (a1:Int) (r1:Ak) (s:(List Int)×(List Af)):Option (((List Int)×(List Af))⊕(Ak×(List Int))):=
match s with
| (p44,p45)=>
(Ce (cW a0 a1 p45) ((-1),0)).bind fun r145=>
(match r145 with
| p119=>
if (decide (p119<0))=true then
some (.inr ((Ak.mk (if a1>a0.clock then a1 else a0.clock) r1.next p45),p44))
else
(El p45 p119).bind fun y148=>
(p45[p119.toNat]?).bind fun y150=>
(El (p45.set p119.toNat (Af.mk y150.id y150.Bn y150.cap true)) p119).bind fun y152=>
((p45.set p119.toNat (Af.mk y150.id y150.Bn y150.cap true))[p119.toNat]?).bind fun y154=>
if (p44.length+([y154.id]:List Int).length)*8≤140737488355328 then
some (.inl ((p44++([y154.id]:List Int)),(p45.set p119.toNat (Af.mk y150.id y150.Bn y150.cap true))))
else none)
noncomputable def g81 (a0:Ak) (a1:Int):Option (Ak×(List Int)):=
(mN a0).bind fun r1=>
(Ce (jY a0 a1 r1) (([]:List Int),r1.Ac)).bind fun r157=>
(match r157 with
| q=>some q)
noncomputable def cP (a0:Ag):Option Ag:=
(mN a0.Ab).bind fun r1=>
if (([]:List Ad).length+a0.Aa.length)*16≤140737488355328 then
if (([]:List Int).length+a0.Ae.length)*8≤140737488355328 then
some (Ag.mk r1 (([]:List Ad)++a0.Aa) (([]:List Int)++a0.Ae) a0.Ai)
else none
else none
noncomputable def g70 (a0:Ak) (a1:Int) (a2:Int):Option (Ak×Int×Int):=
if (bif (decide (a1<1)) then true else (decide (a2<a1)))=true then
some (a0,0,4)
else
if (a0.clock==9223372036854775807)=true then
some (a0,0,11)
else
Bs ((bif ((a0.Ac.length:Int)==40) then true else (a0.next==1000000))) fun v3=>
if v3=true then
some (a0,0,9)
else
(mN a0).bind fun r6=>
(g53 a0.clock a1).bind fun r8=>
(g53 a0.clock a2).bind fun r10=>
if (r6.Ac.length+([(Af.mk a0.next r8 r10 false)]:List Af).length)*32≤140737488355328 then
some ((Ak.mk r6.clock (IntKind.i64.wrap (r6.next+1)) (r6.Ac++([(Af.mk a0.next r8 r10 false)]:List Af))),a0.next,0)
else none
noncomputable def Yi (a0:List Int) (a1:Int) (s:(List Int)×Int):Option (((List Int)×Int)⊕((List Int))):=
match s with
| (p10,p11)=>
(if ((decide (p11<(a0.length:Int)))==true)=true then El a0 p11 else some default).bind fun y23=>
Bs ((bif (decide (p11<(a0.length:Int))) then (decide (y23<a1)) else false)) fun v25=>
if v25=true then
(El a0 p11).bind fun y28=>
if (p10.length+([y28]:List Int).length)*8≤140737488355328 then
some (.inl ((p10++([y28]:List Int)),(IntKind.i64.wrap (p11+1))))
else none
else
some (.inr p10)
noncomputable def cZ (a0:List Int) (a3:Int) (p35:List Int) (p41:Int):Option ((List Int)×Int):=
(Lp a0 p41 (a0.length:Int)).bind fun s42=>
if (p35.length+s42.length)*8≤140737488355328 then
if (a3==2)=true then
some (p35++s42,15)
else
some (p35++s42,0)
else none
noncomputable def cY (a0:List Int) (a1:Int) (a3:Int) (p22:List Int) (p35:List Int):Option ((List Int)×Int):=
(if ((decide ((p22.length:Int)<(a0.length:Int)))==true)=true then El a0 (p22.length:Int) else some default).bind fun y36=>
Bs ((bif (decide ((p22.length:Int)<(a0.length:Int))) then (y36==a1) else false)) fun v38=>
if v38=true then
cZ a0 a3 p35 (IntKind.i64.wrap ((p22.length:Int)+1))
else
cZ a0 a3 p35 (p22.length:Int)
noncomputable def g86 (a0:List Int) (a1:Int) (a2:Bool) (a3:Int):Option ((List Int)×Int):=
if (a3==1)=true then
some (a0,13)
else
(Ce (Yi a0 a1) (([]:List Int),0)).bind fun r31=>
(match r31 with
| p22=>
if a2=true then
if (p22.length+([a1]:List Int).length)*8≤140737488355328 then
cY a0 a1 a3 p22 (p22++([a1]:List Int))
else none
else
cY a0 a1 a3 p22 p22)
noncomputable def Sj  (s:Int×(List Ad)):Option ((Int×(List Ad))⊕((List Ad))):=
match s with
| (p8,p9)=>
if (decide (p8<(p9.length:Int)))=true then
(El p9 p8).bind fun y19=>
(p9[p8.toNat]?).bind fun y21=>
some (.inl ((IntKind.i64.wrap (p8+1)),(p9.set p8.toNat (Ad.mk y21.Bb true))))
else
some (.inr p9)
noncomputable def jN (a0:Ag):Option Ag:=
(cP a0).bind fun r1=>
(Ce (Sj) (0,r1.Aa)).bind fun r23=>
(match r23 with
| p17=>
some (Ag.mk r1.Ab p17 r1.Ae true))
noncomputable def qL (a0:Aj) (a1:Int):Option Int:=
if (decide (a1<(a0.Cp.length:Int)))=true then
(El a0.Cp a1).bind fun y2=>
some y2
else
some 0
noncomputable def Lf (a0:Ag) (a1:Aj) (r1:Ak×Int×Int) (p4:Int):Option (Ag×Am):=
if (p4 != 0)=true then
some (a0,(Am.mk p4 0))
else
(cP a0).bind fun r6=>
if (r6.Aa.length+([(Ad.mk r1.2.1 false)]:List Ad).length)*16≤140737488355328 then
if (a1.stop==1)=true then
(jN (Ag.mk (Ak.mk r6.Ab.clock r1.1.next r6.Ab.Ac) (r6.Aa++([(Ad.mk r1.2.1 false)]:List Ad)) r6.Ae r6.Ai)).bind fun r10=>
some (r10,(Am.mk 15 0))
else
(qL a1 0).bind fun r12=>
(g86 r6.Ae r1.2.1 true r12).bind fun r14=>
if (a1.stop==2)=true then
(jN (Ag.mk (Ak.mk r6.Ab.clock r1.1.next r6.Ab.Ac) (r6.Aa++([(Ad.mk r1.2.1 false)]:List Ad)) r14.1 r6.Ai)).bind fun r17=>
some (r17,(Am.mk 15 0))
else
if (r14.2 != 0)=true then
(El (r6.Aa++([(Ad.mk r1.2.1 false)]:List Ad)) (IntKind.i64.wrap (((r6.Aa++([(Ad.mk r1.2.1 false)]:List Ad)).length:Int)-1))).bind fun y20=>
((r6.Aa++([(Ad.mk r1.2.1 false)]:List Ad))[(IntKind.i64.wrap (((r6.Aa++([(Ad.mk r1.2.1 false)]:List Ad)).length:Int)-1)).toNat]?).bind fun y22=>
some ((Ag.mk (Ak.mk r6.Ab.clock r1.1.next r6.Ab.Ac) ((r6.Aa++([(Ad.mk r1.2.1 false)]:List Ad)).set ((IntKind.i64.wrap (((r6.Aa++([(Ad.mk r1.2.1 false)]:List Ad)).length:Int)-1)).toNat) (Ad.mk y22.Bb true)) r14.1 r6.Ai),(Am.mk r14.2 0))
else
(Lp (r6.Aa++([(Ad.mk r1.2.1 false)]:List Ad)) 0 (IntKind.i64.wrap (((r6.Aa++([(Ad.mk r1.2.1 false)]:List Ad)).length:Int)-1))).bind fun s24=>
some ((Ag.mk r1.1 s24 r14.1 r6.Ai),(Am.mk 0 r1.2.1))
else none
noncomputable def AkX (a0:Ag) (a1:Aj):Option (Ag×Am):=
(g70 a0.Ab a1.ttl a1.Fd).bind fun r1=>
if (bif (r1.2.2==0) then ((a0.Aa.length:Int)==40) else false)=true then
Lf a0 a1 r1 9
else
Lf a0 a1 r1 r1.2.2
noncomputable def g76 (a0:Ak) (a1:Int):Option (Ak×Int):=
(g92 a0 a1).bind fun r1=>
if (decide (r1<0))=true then
some (a0,5)
else
(El a0.Ac r1).bind fun y4=>
if (!y4.Cg)=true then
some (a0,13)
else
(Lp a0.Ac 0 r1).bind fun s7=>
(Lp a0.Ac (IntKind.i64.wrap (r1+1)) (a0.Ac.length:Int)).bind fun s9=>
if (([]:List Af).length+s7.length)*32≤140737488355328 then
if ((([]:List Af)++s7).length+s9.length)*32≤140737488355328 then
some ((Ak.mk a0.clock a0.next ((([]:List Af)++s7)++s9)),0)
else none
else none
noncomputable def aY (p10:Int) (p29:List Ad):Option (((List Ad)×Int)⊕((List Ad))):=
some (.inl (p29,(IntKind.i64.wrap (p10+1))))
noncomputable def Sn (a0:List Ad) (a1:Int) (s:(List Ad)×Int):Option (((List Ad)×Int)⊕((List Ad))):=
match s with
| (p9,p10)=>
if (decide (p10<(a0.length:Int)))=true then
(El a0 p10).bind fun y31=>
if (y31.Bb != a1)=true then
(El a0 p10).bind fun y34=>
if (p9.length+([y34]:List Ad).length)*16≤140737488355328 then
aY p10 (p9++([y34]:List Ad))
else none
else
aY p10 p9
else
some (.inr p9)
noncomputable def Alb (a0:List Ad) (a1:Int):Option (List Ad):=
(Ce (Sn a0 a1) (([]:List Ad),0)).bind fun r37=>
(match r37 with
| p21=>
some p21)
noncomputable def Wd (p28:Int) (p87:Int) (p88:Int) (p89:Int) (p90:List Af) (p91:List Int):Option ((Int×Int×Int×Int×(List Af)×(List Int))⊕((Int×Int×Int×(List Af)×(List Int))⊕Ag)):=
some (.inl (p87,(IntKind.i64.wrap (p28+1)),p88,p89,p90,p91))
noncomputable def Sk (a1:Aj) (r1:Ag) (p27:Int) (p28:Int) (r100:(List Int)×Int) (p105:Int) (p106:Int) (p107:List Af):Option ((Int×Int×Int×Int×(List Af)×(List Int))⊕((Int×Int×Int×(List Af)×(List Int))⊕Ag)):=
if (a1.stop==2)=true then
(jN (Ag.mk (Ak.mk p105 p106 p107) r1.Aa r100.1 r1.Ai)).bind fun r109=>
some (.inr (.inr r109))
else
Wd p28 (IntKind.i64.wrap (p27+1)) p105 p106 p107 r100.1
noncomputable def Nb (a0:Ag) (a1:Aj) (r1:Ag) (s:Int×Int×Int×Int×(List Af)×(List Int)):Option ((Int×Int×Int×Int×(List Af)×(List Int))⊕((Int×Int×Int×(List Af)×(List Int))⊕Ag)):=
match s with
| (p27,p28,p29,p30,p31,p32)=>
if (decide (p28<(a0.Ab.Ac.length:Int)))=true then
(El a0.Ab.Ac p28).bind fun y93=>
(El a0.Ab.Ac p28).bind fun y95=>
if (!y95.Cg)=true then
Wd p28 p27 p29 p30 p31 p32
else
(qL a1 p27).bind fun r98=>
(g86 p32 y93.id false r98).bind fun r100=>
if (r100.2==0)=true then
(g76 (Ak.mk p29 p30 p31) y93.id).bind fun r113=>
Sk a1 r1 p27 p28 r100 r113.1.clock r113.1.next r113.1.Ac
else
Sk a1 r1 p27 p28 r100 p29 p30 p31
else
some (.inr (.inl (p27,p29,p30,p31,p32)))
noncomputable def We (p140:Int) (p190:Int) (p191:List Ad) (p192:List Int):Option ((Int×Int×(List Ad)×(List Int))⊕(((List Ad)×(List Int))⊕Ag)):=
some (.inl (p190,(IntKind.i64.wrap (p140+1)),p191,p192))
noncomputable def Sl (a1:Aj) (r1:Ag) (p64:Int) (p65:Int) (p66:List Af) (p139:Int) (p140:Int) (r201:(List Int)×Int) (p208:List Ad):Option ((Int×Int×(List Ad)×(List Int))⊕(((List Ad)×(List Int))⊕Ag)):=
if (a1.stop==2)=true then
(jN (Ag.mk (Ak.mk p64 p65 p66) p208 r201.1 r1.Ai)).bind fun r210=>
some (.inr (.inr r210))
else
We p140 (IntKind.i64.wrap (p139+1)) p208 r201.1
noncomputable def Kl (a0:Ag) (a1:Aj) (r1:Ag) (p64:Int) (p65:Int) (p66:List Af) (s:Int×Int×(List Ad)×(List Int)):Option ((Int×Int×(List Ad)×(List Int))⊕(((List Ad)×(List Int))⊕Ag)):=
match s with
| (p139,p140,p141,p142)=>
if (decide (p140<(a0.Aa.length:Int)))=true then
(El a0.Aa p140).bind fun y194=>
if (!y194.Ij)=true then
We p140 p139 p141 p142
else
(El a0.Aa p140).bind fun y197=>
(qL a1 p139).bind fun r199=>
(g86 p142 y197.Bb false r199).bind fun r201=>
if (r201.2==0)=true then
(El a0.Aa p140).bind fun y214=>
(Alb p141 y214.Bb).bind fun r216=>
Sl a1 r1 p64 p65 p66 p139 p140 r201 r216
else
Sl a1 r1 p64 p65 p66 p139 p140 r201 p141
else
some (.inr (.inl (p141,p142)))
noncomputable def qJ (a0:Ag) (a1:Aj):Option Ag:=
(cP a0).bind fun r1=>
(Ce (Nb a0 a1 r1) (0,0,r1.Ab.clock,r1.Ab.next,r1.Ab.Ac,r1.Ae)).bind fun r115=>
(match r115 with
| .inl (p63,p64,p65,p66,p67)=>
(Ce (Kl a0 a1 r1 p64 p65 p66) (p63,0,r1.Aa,p67)).bind fun r218=>
(match r218 with
| .inl (p169,p170)=>
some (Ag.mk (Ak.mk p64 p65 p66) p169 p170 r1.Ai)
| .inr q=>some q)
| .inr q=>some q)
noncomputable def Im (a0:Ag) (p27:Int) (p28:Int) (p29:Int) (p30:List Af) (p31:List Ad) (p32:List Int) (p33:Bool):Option (Ag×Am):=
if (p27 != 0)=true then
some (a0,(Am.mk p27 0))
else
some ((Ag.mk (Ak.mk p28 p29 p30) p31 p32 p33),(Am.mk 0 0))
noncomputable def ID (a0:Ag) (a1:Aj):Option (Ag×Am):=
(g56 a1.kind 1 6).bind fun r1=>
if (!r1)=true then
some (a0,(Am.mk 16 0))
else
if (bif a0.Ai then (a1.kind != 6) else false)=true then
some (a0,(Am.mk 14 0))
else
(cP a0).bind fun r5=>
if (a1.kind==1)=true then
(AkX a0 a1).bind fun r37=>
some (r37.1,r37.2)
else
if (a1.kind==2)=true then
(g79 a0.Ab a1.id a1.ttl).bind fun r40=>
Im a0 r40.2 r40.1.clock r40.1.next r40.1.Ac r5.Aa r5.Ae r5.Ai
else
if (a1.kind==3)=true then
(g74 a0.Ab a1.id).bind fun r43=>
Im a0 r43.2 r43.1.clock r43.1.next r43.1.Ac r5.Aa r5.Ae r5.Ai
else
if (a1.kind==4)=true then
(g81 a0.Ab a1.clock).bind fun r46=>
if (a1.stop==1)=true then
(jN (Ag.mk r46.1 r5.Aa r5.Ae r5.Ai)).bind fun r49=>
some (r49,(Am.mk 15 0))
else
(qJ (Ag.mk r46.1 r5.Aa r5.Ae r5.Ai) a1).bind fun r51=>
if (bif r51.Ai then (!r5.Ai) else false)=true then
some (r51,(Am.mk 15 0))
else
Im a0 0 r51.Ab.clock r51.Ab.next r51.Ab.Ac r51.Aa r51.Ae r51.Ai
else
if (a1.kind==5)=true then
Im a0 0 r5.Ab.clock r5.Ab.next r5.Ab.Ac r5.Aa r5.Ae true
else
if (a1.kind==6)=true then
Im a0 0 r5.Ab.clock r5.Ab.next r5.Ab.Ac r5.Aa r5.Ae false
else
Im a0 0 r5.Ab.clock r5.Ab.next r5.Ab.Ac r5.Aa r5.Ae r5.Ai
noncomputable def cT (a0:List Aj) (s:(List Am)×Int×Int×Int×(List Af)×(List Ad)×(List Int)×Bool):Option (((List Am)×Int×Int×Int×(List Af)×(List Ad)×(List Int)×Bool)⊕(((List Am)×Int×Int×(List Af)×(List Ad)×(List Int)×Bool)⊕(Ag×(List Am)×Int))):=
match s with
| (p15,p16,p17,p18,p19,p20,p21,p22)=>
if (decide (p16<(a0.length:Int)))=true then
(El a0 p16).bind fun y51=>
(AkL y51).bind fun r53=>
if (!r53)=true then
some (.inr (.inr ((Ag.mk (Ak.mk 0 0 ([]:List Af)) ([]:List Ad) ([]:List Int) false),([]:List Am),1)))
else
(El a0 p16).bind fun y56=>
(ID (Ag.mk (Ak.mk p17 p18 p19) p20 p21 p22) y56).bind fun r58=>
if (p15.length+([r58.2]:List Am).length)*16≤140737488355328 then
some (.inl ((p15++([r58.2]:List Am)),(IntKind.i64.wrap (p16+1)),r58.1.Ab.clock,r58.1.Ab.next,r58.1.Ab.Ac,r58.1.Aa,r58.1.Ae,r58.1.Ai))
else none
else
some (.inr (.inl (p15,p17,p18,p19,p20,p21,p22)))
noncomputable def g50 (a0:List Aj):Option (Ag×(List Am)×Int):=
if (decide ((a0.length:Int)>4096))=true then
some ((Ag.mk (Ak.mk 0 0 ([]:List Af)) ([]:List Ad) ([]:List Int) false),([]:List Am),2)
else
if (decide ((a0.length:Int)>120))=true then
some ((Ag.mk (Ak.mk 0 0 ([]:List Af)) ([]:List Ad) ([]:List Int) false),([]:List Am),6)
else
(Ce (cT a0) (([]:List Am),0,0,1,([]:List Af),([]:List Ad),([]:List Int),false)).bind fun r62=>
(match r62 with
| .inl (p43,p44,p45,p46,p47,p48,p49)=>
(cP (Ag.mk (Ak.mk p44 p45 p46) p47 p48 p49)).bind fun r64=>
some (r64,p43,0)
| .inr q=>some q)
noncomputable def g83 (a0:List UInt8):Option Bz:=
some (Bz.mk a0 0 (((a0.length:Int)).tmod 1000))
noncomputable def qK (a0:Bz):Option (Int×Bz):=
if (decide ((IntKind.i64.wrap (a0.at_+1))≤(a0.code_.length:Int)))=true then
(El a0.code_ (IntKind.i64.wrap ((IntKind.i64.wrap (a0.at_+1))-1))).bind fun y2=>
Bs (((IntKind.i64.wrap ((IntKind.i64.wrap ((IntKind.i64.wrap (a0.Fv*31))+(IntKind.i64.wrap ((y2).toNat:Int))))+7))).tmod 2147483648) fun v4=>
(El a0.code_ (IntKind.i64.wrap ((IntKind.i64.wrap (a0.at_+1))-1))).bind fun y6=>
some (IntKind.i64.wrap ((y6).toNat:Int),(Bz.mk a0.code_ (IntKind.i64.wrap (a0.at_+1)) v4))
else
if (decide ((IntKind.i64.wrap (a0.at_+1))>3000))=true then
some (0,(Bz.mk a0.code_ (IntKind.i64.wrap (a0.at_+1)) a0.Fv))
else
Bs (((IntKind.i64.wrap ((IntKind.i64.wrap (a0.Fv*1103515245))+12345))).tmod 2147483648) fun v9=>
some (((IntKind.i64.wrap ((v9).tdiv 65536))).tmod 256,(Bz.mk a0.code_ (IntKind.i64.wrap (a0.at_+1)) v9))
noncomputable def Qy (a0:Bz) (a1:Int):Option (Int×Bz):=
if (decide (a1≤1))=true then
some (0,a0)
else
if (decide (a1≤256))=true then
(qK a0).bind fun r3=>
if a1≠0 then
some ((r3.1).tmod a1,r3.2)
else none
else
(qK a0).bind fun r6=>
(qK r6.2).bind fun r8=>
(qK r8.2).bind fun r10=>
if a1≠0 then
Bs (((IntKind.i64.wrap ((IntKind.i64.wrap ((IntKind.i64.wrap (r6.1*65536))+(IntKind.i64.wrap (r8.1*256))))+r10.1))).tmod a1) fun v13=>
some (v13,r10.2)
else none
noncomputable def AkP (a0:Bz) (a1:Int):Option Int:=
Bs (if a1<(IntKind.i64.wrap (1+(IntKind.i64.wrap (((a0.code_.length:Int)).tdiv 12)))) then a1 else (IntKind.i64.wrap (1+(IntKind.i64.wrap (((a0.code_.length:Int)).tdiv 12))))) fun v1=>
some v1
noncomputable def IH (a0:Bz) (a1:Int):Option (Bool×Bz):=
(Qy a0 a1).bind fun r1=>
some ((r1.1==(IntKind.i64.wrap (a1-1))),r1.2)
noncomputable def aZ  (s:(List Int)×Int×(List UInt8)×Int×Int):Option (((List Int)×Int×(List UInt8)×Int×Int)⊕((List Int)×(List UInt8)×Int×Int)):=
match s with
| (p7,p8,p9,p10,p11)=>
if (decide (p8>0))=true then
(Qy (Bz.mk p9 p10 p11) 5).bind fun r26=>
if (p7.length+([(r26.1).tmod 3]:List Int).length)*8≤140737488355328 then
some (.inl ((p7++([(r26.1).tmod 3]:List Int)),(IntKind.i64.wrap (p8-1)),r26.2.code_,r26.2.at_,r26.2.Fv))
else none
else
some (.inr (p7,p9,p10,p11))
noncomputable def IK (a0:Bz):Option ((List Int)×Bz):=
(Qy a0 4).bind fun r1=>
(Ce (aZ) (([]:List Int),r1.1,r1.2.code_,r1.2.at_,r1.2.Fv)).bind fun r29=>
(match r29 with
| (p21,p22,p23,p24)=>
some (p21,(Bz.mk p22 p23 p24)))
noncomputable def aW (p32:Int) (p33:Int) (p34:Int) (p35:Int) (p36:Int) (p37:List Int) (p46:Int) (p47:List UInt8) (p48:Int) (p49:Int):Option (Aj×Bz):=
some ((Aj.mk p32 p33 p34 p35 p36 p37 p46),(Bz.mk p47 p48 p49))
noncomputable def Nc (p32:Int) (p33:Int) (p34:Int) (p35:Int) (p36:Int) (p37:List Int) (p38:List UInt8) (p39:Int) (p40:Int):Option (Aj×Bz):=
(IH (Bz.mk p38 p39 p40) 7).bind fun r41=>
if r41.1=true then
(Qy r41.2 2).bind fun r52=>
aW p32 p33 p34 p35 p36 p37 (IntKind.i64.wrap (1+r52.1)) r52.2.code_ r52.2.at_ r52.2.Fv
else
aW p32 p33 p34 p35 p36 p37 0 r41.2.code_ r41.2.at_ r41.2.Fv
noncomputable def Sm (r1:Int×Bz) (r3:(List Int)×Bz) (r5:Int×Bz) (r7:Int×Bz) (p65:Bool):Option (Aj×Bz):=
if p65=true then
(Qy r7.2 60).bind fun r67=>
(IK r67.2).bind fun r69=>
Nc 4 0 0 0 r67.1 r69.1 r69.2.code_ r69.2.at_ r69.2.Fv
else
if (r7.1==5)=true then
(Qy r7.2 4).bind fun r72=>
(El ([5,6,6,6]:List Int) r72.1).bind fun y74=>
(([5,6,6,6]:List Int)[r72.1.toNat]?).bind fun y76=>
Nc y76 0 0 0 0 ([]:List Int) r72.2.code_ r72.2.at_ r72.2.Fv
else
Nc 1 0 (IntKind.i64.wrap (1+r1.1)) (IntKind.i64.wrap ((IntKind.i64.wrap (1+r1.1))+r5.1)) 0 r3.1 r7.2.code_ r7.2.at_ r7.2.Fv
noncomputable def AkY (a0:Bz):Option (Aj×Bz):=
(Qy a0 9).bind fun r1=>
(IK r1.2).bind fun r3=>
(Qy r3.2 9).bind fun r5=>
(Qy r5.2 10).bind fun r7=>
if (r7.1==0)=true then
(Qy r7.2 9).bind fun r56=>
(Qy r56.2 12).bind fun r58=>
Nc 2 (IntKind.i64.wrap (1+r56.1)) (IntKind.i64.wrap (1+r58.1)) 0 0 ([]:List Int) r58.2.code_ r58.2.at_ r58.2.Fv
else
if (r7.1==1)=true then
(Qy r7.2 9).bind fun r61=>
Nc 3 (IntKind.i64.wrap (1+r61.1)) 0 0 0 ([]:List Int) r61.2.code_ r61.2.at_ r61.2.Fv
else
if (r7.1==2)=true then
Sm r1 r3 r5 r7 (r7.1==2)
else
if (r7.1==3)=true then
Sm r1 r3 r5 r7 (r7.1==3)
else
Sm r1 r3 r5 r7 (r7.1==4)
noncomputable def aR (p16:Int) (p45:List Aj) (p46:List UInt8) (p47:Int) (p48:Int):Option (((List Aj)×Int×(List UInt8)×Int×Int)⊕((List Aj)×(List UInt8)×Int×Int)):=
some (.inl (p45,(IntKind.i64.wrap (p16-1)),p46,p47,p48))
noncomputable def aS  (s:(List Aj)×Int×(List UInt8)×Int×Int):Option (((List Aj)×Int×(List UInt8)×Int×Int)⊕((List Aj)×(List UInt8)×Int×Int)):=
match s with
| (p15,p16,p17,p18,p19)=>
if (decide (p16>0))=true then
(AkY (Bz.mk p17 p18 p19)).bind fun r50=>
if (p15.length+([r50.1]:List Aj).length)*72≤140737488355328 then
if (bif (r50.1.stop != 0) then true else (r50.1.kind==5))=true then
if ((p15++([r50.1]:List Aj)).length+([(Aj.mk 6 0 0 0 0 ([]:List Int) 0)]:List Aj).length)*72≤140737488355328 then
aR p16 ((p15++([r50.1]:List Aj))++([(Aj.mk 6 0 0 0 0 ([]:List Int) 0)]:List Aj)) r50.2.code_ r50.2.at_ r50.2.Fv
else none
else
aR p16 (p15++([r50.1]:List Aj)) r50.2.code_ r50.2.at_ r50.2.Fv
else none
else
some (.inr (p15,p17,p18,p19))
noncomputable def g103 (a0:Bz):Option ((List Aj)×Bz):=
(AkP a0 16).bind fun r1=>
(Qy a0 (IntKind.i64.wrap (r1+3))).bind fun r3=>
(Ce (aS) (([]:List Aj),r3.1,r3.2.code_,r3.2.at_,r3.2.Fv)).bind fun r55=>
(match r55 with
| (p35,p36,p37,p38)=>
(Lp p35 0 (if 120<(p35.length:Int) then 120 else (p35.length:Int))).bind fun s57=>
some (s57,(Bz.mk p36 p37 p38)))
noncomputable def g51 (a0:List UInt8):Option (List Aj):=
(g83 a0).bind fun r1=>
(g103 r1).bind fun r3=>
some r3.1
noncomputable def wW (a0:List Aw):Option Bool:=
some (decide ((a0.length:Int)≤4096))
noncomputable def tV (a0:List Aw) (is1:Aw→Option Bool) (s:Int):Option ((Int)⊕(Unit⊕Int)):=
match s with
| p7=>
if (decide (p7<(a0.length:Int)))=true then
(El a0 p7).bind fun y16=>
(is1 y16).bind fun r18=>
if r18=true then
some (.inr (.inr p7))
else
some (.inl (IntKind.i64.wrap (p7+1)))
else
some (.inr (.inl ()))
noncomputable def g367 (a0:List Aw) (is1:Aw→Option Bool):Option Int:=
(Ce (tV a0 is1) 0).bind fun r21=>
(match r21 with
| .inl ()=>
some (-1)
| .inr q=>some q)
noncomputable def Aly (a0:List Aw) (is1:Aw→Option Bool):Option Bool:=
(g367 a0 is1).bind fun r1=>
some (decide (r1≥0))
noncomputable def AlA (a0:Aw) (is1:Aw→Option Bool):Option Bool:=
(is1 a0).bind fun r1=>
some (!r1)
noncomputable def Alo (a0:List Aw) (is1:Aw→Option Bool):Option Bool:=
(Aly a0 (fun z330_0=>AlA z330_0 is1)).bind fun r1=>
some (!r1)
noncomputable def bI (a0:Int) (a1:Int) (a2:Int):Option Bool:=
some (bif (decide (a1≤a0)) then (decide (a0≤a2)) else false)
noncomputable def wX (a0:Aw):Option Bool:=
(bI a0.at_ 0 127).bind fun r1=>
some (bif r1 then ((a0.data.length:Int)==32) else false)
noncomputable def mP (a0:Ay):Option Bool:=
(if ((bif ((((a0.held.length:Int)).tmod 32)==0) then (decide ((a0.held.length:Int)≤4096)) else false)==true)=true then wW a0.Av else some default).bind fun r1=>
(if ((bif (bif ((((a0.held.length:Int)).tmod 32)==0) then (decide ((a0.held.length:Int)≤4096)) else false) then r1 else false)==true)=true then Alo a0.Av (fun z271_0=>wX z271_0) else some default).bind fun r3=>
Bs ((bif (bif (bif ((((a0.held.length:Int)).tmod 32)==0) then (decide ((a0.held.length:Int)≤4096)) else false) then r1 else false) then r3 else false)) fun v5=>
some v5
noncomputable def qM (a0:List UInt8):Option Bool:=
some (decide ((a0.length:Int)≤65536))
noncomputable def qN (a0:Int) (a1:Int):Option Bool:=
(bI a0 0 4096).bind fun r1=>
Bs ((bif r1 then (decide ((IntKind.i64.wrap (a0+a1))≤4096)) else false)) fun v3=>
some v3
def jO (a0:List UInt8):Option (List UInt8):=if ([]:List UInt8).length+a0.length≤140737488355328 then some a0 else none
noncomputable def Wk (a1:Aw) (p6:List UInt8):Option (List UInt8):=
(Lp p6 (IntKind.i64.wrap (32*a1.at_)) (p6.length:Int)).bind fun s7=>
Bs (ovl p6 ((IntKind.i64.wrap (32*a1.at_)).toNat) (a1.data.take s7.length)) fun v9=>
some v9
noncomputable def IT (a0:List UInt8) (a1:Aw):Option (List UInt8):=
Bs ((decide ((a0.length:Int)<(IntKind.i64.wrap (32*(IntKind.i64.wrap (a1.at_+1))))))) fun v1=>
if v1=true then
if 0≤(IntKind.i64.wrap ((IntKind.i64.wrap (32*(IntKind.i64.wrap (a1.at_+1))))-(a0.length:Int))) then
if ((a0.length:Int)+(IntKind.i64.wrap ((IntKind.i64.wrap (32*(IntKind.i64.wrap (a1.at_+1))))-(a0.length:Int))))*1≤140737488355328 then
Wk a1 (a0++List.replicate (IntKind.i64.wrap ((IntKind.i64.wrap (32*(IntKind.i64.wrap (a1.at_+1))))-(a0.length:Int))).toNat (0:UInt8))
else none
else none
else
Wk a1 a0
noncomputable def Wh (a0:Ay) (s:(List UInt8)×Int):Option (((List UInt8)×Int)⊕((List UInt8))):=
match s with
| (p8,p9)=>
if (decide (p9<(a0.Av.length:Int)))=true then
(El a0.Av p9).bind fun y19=>
(IT p8 y19).bind fun r21=>
some (.inl (r21,(IntKind.i64.wrap (p9+1))))
else
some (.inr p8)
noncomputable def fI (a0:Ay):Option (List UInt8):=
(jO a0.held).bind fun r1=>
(Ce (Wh a0) (r1,0)).bind fun r23=>
(match r23 with
| p17=>
some p17)
noncomputable def Ta (a0:Ay) (s:Int×(List Aw)):Option ((Int×(List Aw))⊕((List Aw))):=
match s with
| (p9,p10)=>
if (decide (p9<(a0.Av.length:Int)))=true then
(El a0.Av p9).bind fun y21=>
(jO y21.data).bind fun r23=>
if (p10.length+([(Aw.mk y21.at_ r23)]:List Aw).length)*32≤140737488355328 then
some (.inl ((IntKind.i64.wrap (p9+1)),(p10++([(Aw.mk y21.at_ r23)]:List Aw))))
else none
else
some (.inr p10)
noncomputable def AlD (a0:Ay):Option Ay:=
(jO a0.held).bind fun r1=>
(Ce (Ta a0) (0,([]:List Aw))).bind fun r26=>
(match r26 with
| p19=>
some (Ay.mk r1 p19))
noncomputable def Wm (a1:Int) (a2:List UInt8) (v6:Int) (p13:List UInt8) (s14:List UInt8) (s:Int×(List Aw)):Option ((Int×(List Aw))⊕((List Aw))):=
match s with
| (p24,p25)=>
if (decide (p24≤v6))=true then
(Lp (ovl p13 a1.toNat (a2.take s14.length)) (IntKind.i64.wrap (32*p24)) (IntKind.i64.wrap (32*(IntKind.i64.wrap (p24+1))))).bind fun s36=>
(jO s36).bind fun r38=>
if (p25.length+([(Aw.mk p24 r38)]:List Aw).length)*32≤140737488355328 then
some (.inl ((IntKind.i64.wrap (p24+1)),(p25++([(Aw.mk p24 r38)]:List Aw))))
else none
else
some (.inr p25)
noncomputable def Wl (a1:Int) (a2:List UInt8) (r1:Ay) (v6:Int) (p13:List UInt8):Option Ay:=
(Lp p13 a1 (p13.length:Int)).bind fun s14=>
(Ce (Wm a1 a2 v6 p13 s14) ((IntKind.i64.wrap ((a1).tdiv 32)),r1.Av)).bind fun r41=>
(match r41 with
| p34=>
some (Ay.mk r1.held p34))
noncomputable def IU (a0:Ay) (a1:Int) (a2:List UInt8):Option Ay:=
(AlD a0).bind fun r1=>
if ((a2.length:Int)==0)=true then
some r1
else
(fI a0).bind fun r4=>
Bs (IntKind.i64.wrap (((IntKind.i64.wrap ((IntKind.i64.wrap (a1+(a2.length:Int)))-1))).tdiv 32)) fun v6=>
Bs ((decide ((r4.length:Int)<(IntKind.i64.wrap (32*(IntKind.i64.wrap (v6+1))))))) fun v8=>
if v8=true then
if 0≤(IntKind.i64.wrap ((IntKind.i64.wrap (32*(IntKind.i64.wrap (v6+1))))-(r4.length:Int))) then
if ((r4.length:Int)+(IntKind.i64.wrap ((IntKind.i64.wrap (32*(IntKind.i64.wrap (v6+1))))-(r4.length:Int))))*1≤140737488355328 then
Wl a1 a2 r1 v6 (r4++List.replicate (IntKind.i64.wrap ((IntKind.i64.wrap (32*(IntKind.i64.wrap (v6+1))))-(r4.length:Int))).toNat (0:UInt8))
else none
else none
else
Wl a1 a2 r1 v6 r4
noncomputable def IQ (a0:Ay) (a1:Int) (a2:List UInt8):Option (Ay×Int):=
(qN a1 (a2.length:Int)).bind fun r1=>
if (!r1)=true then
some ((Ay.mk ([]:List UInt8) ([]:List Aw)),9)
else
(IU a0 a1 a2).bind fun r4=>
(wW r4.Av).bind fun r6=>
if (!r6)=true then
some ((Ay.mk ([]:List UInt8) ([]:List Aw)),6)
else
some (r4,0)
noncomputable def wU (a0:Ay) (a1:Int) (a2:List UInt8):Option (Ay×Int):=
(qM a2).bind fun r1=>
if (!r1)=true then
some ((Ay.mk ([]:List UInt8) ([]:List Aw)),2)
else
(mP a0).bind fun r4=>
if (!r4)=true then
some ((Ay.mk ([]:List UInt8) ([]:List Aw)),1)
else
(IQ a0 a1 a2).bind fun r7=>
some (r7.1,r7.2)
noncomputable def bC (p49:Int) (p58:Int):Option ((Int×Int)⊕(Int)):=
some (.inl (p58,(IntKind.i64.wrap (p49+1))))
noncomputable def Sx  (s:Int×Int):Option ((Int×Int)⊕(Int)):=
match s with
| (p48,p49)=>
if (decide (p49<8))=true then
if ((Ym .u32 p48 1)==1)=true then
bC p49 (xI .u32 (Kc .u32 p48 1) 3988292384)
else
bC p49 (Kc .u32 p48 1)
else
some (.inr p48)
noncomputable def Sw (a0:List UInt8) (s:Int×Int):Option ((Int×Int)⊕(Int)):=
match s with
| (p19,p20)=>
if (decide (p20<(a0.length:Int)))=true then
(El a0 p20).bind fun y41=>
(Ce (Sx) ((xI .u32 p19 (IntKind.u32.wrap ((y41).toNat:Int))),0)).bind fun r61=>
(match r61 with
| p55=>
some (.inl (p55,(IntKind.i64.wrap (p20+1)))))
else
some (.inr p19)
noncomputable def IV (a0:List UInt8):Option Int:=
(Ce (Sw a0) (4294967295,0)).bind fun r63=>
(match r63 with
| p39=>
some (IntKind.i64.wrap (inot .u32 p39)))
noncomputable def Sy (a0:List UInt8) (s:Int×Int):Option ((Int×Int)⊕(Int)):=
match s with
| (p4,p5)=>
if (decide (p5<(a0.length:Int)))=true then
(El a0 p5).bind fun y13=>
some (.inl ((ior .i64 (fP .i64 p4 8) (IntKind.i64.wrap ((y13).toNat:Int))),(IntKind.i64.wrap (p5+1))))
else
some (.inr p4)
noncomputable def qP (a0:List UInt8):Option Int:=
(Ce (Sy a0) (0,0)).bind fun r15=>
(match r15 with
| p11=>
some p11)
noncomputable def Km (a0:List UInt8) (s:(List (List UInt8))×Int):Option (((List (List UInt8))×Int)⊕((List (List UInt8))×Int)):=
match s with
| (p26,p27)=>
if (decide ((IntKind.i64.wrap (p27+2))≤(a0.length:Int)))=true then
(Lp a0 p27 (IntKind.i64.wrap (p27+2))).bind fun s58=>
(qP s58).bind fun r60=>
Bs (IntKind.i64.wrap ((IntKind.i64.wrap (p27+2))+(IntKind.i64.wrap (r60-1)))) fun v62=>
(bI (IntKind.i64.wrap (r60-1)) 0 2000).bind fun r64=>
(if ((bif (!r64) then true else (decide ((IntKind.i64.wrap (v62+4))>(a0.length:Int))))==false)=true then Lp a0 p27 v62 else some default).bind fun s66=>
(if ((bif (!r64) then true else (decide ((IntKind.i64.wrap (v62+4))>(a0.length:Int))))==false)=true then Lp a0 v62 (IntKind.i64.wrap (v62+4)) else some default).bind fun s68=>
(if ((bif (!r64) then true else (decide ((IntKind.i64.wrap (v62+4))>(a0.length:Int))))==false)=true then IV s66 else some default).bind fun r70=>
(if ((bif (!r64) then true else (decide ((IntKind.i64.wrap (v62+4))>(a0.length:Int))))==false)=true then qP s68 else some default).bind fun r72=>
Bs ((bif (bif (!r64) then true else (decide ((IntKind.i64.wrap (v62+4))>(a0.length:Int)))) then true else (r70 != r72))) fun v74=>
if v74=true then
some (.inr (p26,p27))
else
(Lp a0 (IntKind.i64.wrap (p27+2)) v62).bind fun s77=>
(jO s77).bind fun r79=>
if (p26.length+([r79]:List (List UInt8)).length)*24≤140737488355328 then
some (.inl ((p26++([r79]:List (List UInt8))),(IntKind.i64.wrap (v62+4))))
else none
else
some (.inr (p26,p27))
noncomputable def fJ (a0:List UInt8):Option ((List (List UInt8))×Int):=
(Ce (Km a0) ([],0)).bind fun r82=>
(match r82 with
| (p55,p56)=>
some (p55,p56))
noncomputable def Ald (a0:Ay):Option ((List (List UInt8))×Int):=
(mP a0).bind fun r1=>
if (!r1)=true then
some ([],1)
else
(fI a0).bind fun r4=>
(fJ r4).bind fun r6=>
some (r6.1,0)
noncomputable def bA (p13:Int) (p34:List UInt8):Option (((List UInt8)×Int)⊕((List UInt8))):=
some (.inl (p34,(IntKind.i64.wrap (p13+1))))
noncomputable def Sr (a0:Ay) (a1:List Bool) (s:(List UInt8)×Int):Option (((List UInt8)×Int)⊕((List UInt8))):=
match s with
| (p12,p13)=>
if (decide (p13<(a0.Av.length:Int)))=true then
(El a0.Av p13).bind fun y36=>
(if ((decide (p13<(a1.length:Int)))==true)=true then El a1 p13 else some default).bind fun y38=>
if (bif (decide (p13<(a1.length:Int))) then y38 else false)=true then
(IT p12 y36).bind fun r41=>
bA p13 r41
else
bA p13 p12
else
some (.inr p12)
noncomputable def Alm (a0:Ay) (a1:List Bool):Option Ay:=
(jO a0.held).bind fun r1=>
(Ce (Sr a0 a1) (r1,0)).bind fun r43=>
(match r43 with
| p25=>
some (Ay.mk p25 ([]:List Aw)))
noncomputable def g305 (a0:List Bool):Option Bool:=
some (decide ((a0.length:Int)≤4096))
noncomputable def IN (a0:Ay) (a1:List Bool):Option (Ay×Int):=
(g305 a1).bind fun r1=>
if (!r1)=true then
some ((Ay.mk ([]:List UInt8) ([]:List Aw)),2)
else
(mP a0).bind fun r4=>
if (!r4)=true then
some ((Ay.mk ([]:List UInt8) ([]:List Aw)),1)
else
(Alm a0 a1).bind fun r7=>
some (r7,0)
noncomputable def bB  (s:(List Bool)×Int×(List UInt8)×Int×Int):Option (((List Bool)×Int×(List UInt8)×Int×Int)⊕((List Bool)×(List UInt8)×Int×Int)):=
match s with
| (p7,p8,p9,p10,p11)=>
if (decide (p8>0))=true then
(IH (Bz.mk p9 p10 p11) 2).bind fun r26=>
if (p7.length+([r26.1]:List Bool).length)*1≤140737488355328 then
some (.inl ((p7++([r26.1]:List Bool)),(IntKind.i64.wrap (p8-1)),r26.2.code_,r26.2.at_,r26.2.Fv))
else none
else
some (.inr (p7,p9,p10,p11))
noncomputable def Alu (a0:Bz) (a1:Int):Option ((List Bool)×Bz):=
(Qy a0 (IntKind.i64.wrap (a1+1))).bind fun r1=>
(Ce (bB) (([]:List Bool),r1.1,r1.2.code_,r1.2.at_,r1.2.Fv)).bind fun r29=>
(match r29 with
| (p21,p22,p23,p24)=>
some (p21,(Bz.mk p22 p23 p24)))
noncomputable def Alf (a0:List UInt8):Option (List Bool):=
(g83 a0).bind fun r1=>
(Alu r1 12).bind fun r3=>
some r3.1
noncomputable def g58 (a0:Int):Option Bool:=
(bI a0 1 1000000).bind fun r1=>
some r1
noncomputable def cV (a0:List Int) (a1:Int) (a2:Int) (s:Int):Option ((Int)⊕(Unit⊕Bool)):=
match s with
| p11=>
if (decide (p11<(a0.length:Int)))=true then
(El a0 p11).bind fun y24=>
(bI y24 a1 a2).bind fun r26=>
(if (((!r26)==false)&&((decide (p11>0))==true))=true then El a0 (IntKind.i64.wrap (p11-1)) else some default).bind fun y28=>
Bs ((bif (!r26) then true else (bif (decide (p11>0)) then (decide (y28≥y24)) else false))) fun v30=>
if v30=true then
some (.inr (.inr false))
else
some (.inl (IntKind.i64.wrap (p11+1)))
else
some (.inr (.inl ()))
noncomputable def g59 (a0:List Int) (a1:Int) (a2:Int):Option Bool:=
(Ce (cV a0 a1 a2) 0).bind fun r33=>
(match r33 with
| .inl ()=>
some true
| .inr q=>some q)
noncomputable def Oz (a0:Ak) (s:(List Int)×Int):Option (((List Int)×Int)⊕((List Int))):=
match s with
| (p5,p6)=>
if (decide (p6<(a0.Ac.length:Int)))=true then
(El a0.Ac p6).bind fun y15=>
if (p5.length+([y15.id]:List Int).length)*8≤140737488355328 then
some (.inl ((p5++([y15.id]:List Int)),(IntKind.i64.wrap (p6+1))))
else none
else
some (.inr p5)
noncomputable def g60 (a0:Ak):Option (List Int):=
(Ce (Oz a0) ([],0)).bind fun r18=>
(match r18 with
| p13=>
some p13)
noncomputable def Sh (a0:List Af) (is1:Af→Option Bool) (s:Int):Option ((Int)⊕(Unit⊕Int)):=
match s with
| p7=>
if (decide (p7<(a0.length:Int)))=true then
(El a0 p7).bind fun y16=>
(is1 y16).bind fun r18=>
if r18=true then
some (.inr (.inr p7))
else
some (.inl (IntKind.i64.wrap (p7+1)))
else
some (.inr (.inl ()))
noncomputable def IF (a0:List Af) (is1:Af→Option Bool):Option Int:=
(Ce (Sh a0 is1) 0).bind fun r21=>
(match r21 with
| .inl ()=>
some (-1)
| .inr q=>some q)
noncomputable def g105 (a0:List Af) (is1:Af→Option Bool):Option Bool:=
(IF a0 is1).bind fun r1=>
some (decide (r1≥0))
noncomputable def IE (a0:Af) (is1:Af→Option Bool):Option Bool:=
(is1 a0).bind fun r1=>
some (!r1)
noncomputable def g61 (a0:List Af) (is1:Af→Option Bool):Option Bool:=
(g105 a0 (fun z106_0=>IE z106_0 is1)).bind fun r1=>
some (!r1)
noncomputable def g62 (a0:Af) (a1:Ak):Option Bool:=
(bI a0.Bn 0 a0.cap).bind fun r1=>
Bs ((bif r1 then (bif a0.Cg then true else (decide (a0.Bn>a1.clock))) else false)) fun v3=>
some v3
noncomputable def g20 (a0:Ak):Option Bool:=
(if ((decide (a0.clock≥0))==true)=true then g58 a0.next else some default).bind fun r1=>
(if ((bif (bif (decide (a0.clock≥0)) then r1 else false) then (decide ((a0.Ac.length:Int)≤40)) else false)==true)=true then g60 a0 else some default).bind fun r3=>
(if ((bif (bif (decide (a0.clock≥0)) then r1 else false) then (decide ((a0.Ac.length:Int)≤40)) else false)==true)=true then g59 r3 1 (IntKind.i64.wrap (a0.next-1)) else some default).bind fun r5=>
(if ((bif (bif (bif (decide (a0.clock≥0)) then r1 else false) then (decide ((a0.Ac.length:Int)≤40)) else false) then r5 else false)==true)=true then g61 a0.Ac (fun z62_0=>g62 z62_0 a0) else some default).bind fun r7=>
Bs ((bif (bif (bif (bif (decide (a0.clock≥0)) then r1 else false) then (decide ((a0.Ac.length:Int)≤40)) else false) then r5 else false) then r7 else false)) fun v9=>
some v9
noncomputable def dA (a0:List Ad) (s:(List Int)×Int):Option (((List Int)×Int)⊕((List Int))):=
match s with
| (p5,p6)=>
if (decide (p6<(a0.length:Int)))=true then
(El a0 p6).bind fun y15=>
if (p5.length+([y15.Bb]:List Int).length)*8≤140737488355328 then
some (.inl ((p5++([y15.Bb]:List Int)),(IntKind.i64.wrap (p6+1))))
else none
else
some (.inr p5)
noncomputable def g95 (a0:List Ad):Option (List Int):=
(Ce (dA a0) ([],0)).bind fun r18=>
(match r18 with
| p13=>
some p13)
def Ala (a0:List Int) (a1:Int):Option (List Int):=if 0≤a1∧(a0.length:Int)+a1≤17592186044416 then some a0 else none
noncomputable def aV (p7:Int) (p20:Int):Option ((Int×Int)⊕(Int)):=
some (.inl (p20,(IntKind.i64.wrap (p7+1))))
noncomputable def Mz (a0:List (List Int)) (s:Int×Int):Option ((Int×Int)⊕(Int)):=
match s with
| (p6,p7)=>
if (decide (p7<(a0.length:Int)))=true then
(El a0 p7).bind fun y22=>
if (decide ((IntKind.i64.wrap (p6+(y22.length:Int)))<0))=true then
none
else
aV p7 (IntKind.i64.wrap (p6+(y22.length:Int)))
else
some (.inr p6)
noncomputable def Na (a0:List (List Int)) (s:(List Int)×Int):Option (((List Int)×Int)⊕((List Int))):=
match s with
| (p33,p34)=>
if (decide (p34<(a0.length:Int)))=true then
(El a0 p34).bind fun y43=>
if (p33.length+y43.length)*8≤140737488355328 then
some (.inl ((p33++y43),(IntKind.i64.wrap (p34+1))))
else none
else
some (.inr p33)
noncomputable def AkS (a0:List (List Int)):Option (List Int):=
(Ce (Mz a0) (0,0)).bind fun r25=>
(match r25 with
| p15=>
(Ala ([]:List Int) p15).bind fun r27=>
(Ce (Na a0) (r27,0)).bind fun r46=>
(match r46 with
| p41=>
some p41))
noncomputable def tQ (a0:List Int) (is1:Int→Option Bool) (s:Int):Option ((Int)⊕(Unit⊕Int)):=
match s with
| p7=>
if (decide (p7<(a0.length:Int)))=true then
(El a0 p7).bind fun y16=>
(is1 y16).bind fun r18=>
if r18=true then
some (.inr (.inr p7))
else
some (.inl (IntKind.i64.wrap (p7+1)))
else
some (.inr (.inl ()))
noncomputable def AkT (a0:List Int) (is1:Int→Option Bool):Option Int:=
(Ce (tQ a0 is1) 0).bind fun r21=>
(match r21 with
| .inl ()=>
some (-1)
| .inr q=>some q)
noncomputable def II (a0:Int) (a1:List (Int×Bool)):Option Bool:=
some (!(Of a1 a0))
noncomputable def Yl (r5:(List Int)) (s:Int×(List (Int×Bool))):Option ((Int×(List (Int×Bool)))⊕((List (Int×Bool)))):=
match s with
| (p12,p13)=>
if (decide (p12<(r5.length:Int)))=true then
(El r5 p12).bind fun y23=>
(r5[p12.toNat]?).bind fun y25=>
some (.inl ((IntKind.i64.wrap (p12+1)),(Uc p13 y25 true)))
else
some (.inr p13)
noncomputable def g96 (a0:Ag):Option (Int×Bool):=
(g60 a0.Ab).bind fun r1=>
(g95 a0.Aa).bind fun r3=>
(AkS ([r1,r3]:List (List Int))).bind fun r5=>
(Ce (Yl r5) (0,([]:List (Int×Bool)))).bind fun r27=>
(match r27 with
| p21=>
(AkT a0.Ae (fun z128_0=>II z128_0 p21)).bind fun r29=>
if (decide (r29<0))=true then
some (0,false)
else
(El a0.Ae r29).bind fun y32=>
some (y32,true))
noncomputable def AkU (a0:List Int) (is1:Int→Option Bool):Option Bool:=
(AkT a0 is1).bind fun r1=>
some (decide (r1≥0))
noncomputable def AkW (a0:Int) (is1:Int→Option Bool):Option Bool:=
(is1 a0).bind fun r1=>
some (!r1)
noncomputable def g97 (a0:List Int) (is1:Int→Option Bool):Option Bool:=
(AkU a0 (fun z130_0=>AkW z130_0 is1)).bind fun r1=>
some (!r1)
noncomputable def aT (a0:List Af) (a1:Int) (is2:Af→Int→Option Int) (s:Int×Int):Option ((Int×Int)⊕(Int)):=
match s with
| (p9,p10)=>
if (decide (p9<p10))=true then
Bs (IntKind.i64.wrap (Kc .u64 (IntKind.u64.wrap (IntKind.i64.wrap (p9+p10))) 1)) fun v23=>
(El a0 v23).bind fun y25=>
(is2 y25 a1).bind fun r27=>
if (decide (r27<0))=true then
some (.inl ((IntKind.i64.wrap (v23+1)),p10))
else
some (.inl (p9,v23))
else
some (.inr p9)
noncomputable def g113 (a0:List Af) (a1:Int) (is2:Af→Int→Option Int):Option (Int×Bool):=
(Ce (aT a0 a1 is2) (0,(a0.length:Int))).bind fun r30=>
(match r30 with
| p21=>
(if ((decide (p21<(a0.length:Int)))==true)=true then El a0 p21 else some default).bind fun y32=>
(if ((decide (p21<(a0.length:Int)))==true)=true then is2 y32 a1 else some default).bind fun r34=>
some (p21,(bif (decide (p21<(a0.length:Int))) then (r34==0) else false)))
noncomputable def mO (a0:Int):Option Bool:=
some (a0 != a0)
noncomputable def wS (a0:Int) (a1:Int):Option Int:=
(mO a0).bind fun r1=>
(mO a1).bind fun r3=>
if r1=true then
if r3=true then
some 0
else
some (-1)
else
if r3=true then
some 1
else
if (decide (a0<a1))=true then
some (-1)
else
if (decide (a0>a1))=true then
some 1
else
some 0
noncomputable def wT (a0:Af) (a1:Int):Option Int:=
(wS a0.id a1).bind fun r1=>
some r1
noncomputable def NG (a0:Ak) (a1:Int):Option (Int×Bool):=
(g113 a0.Ac a1 (fun z114_0 z114_1=>wT z114_0 z114_1)).bind fun r1=>
some (r1.1,r1.2)
noncomputable def g98 (a0:Int) (a1:Ag):Option Bool:=
(NG a1.Ab a0).bind fun r1=>
some (!r1.2)
noncomputable def g48 (a0:Ag):Option Bool:=
(g20 a0.Ab).bind fun r1=>
(if ((bif (!r1) then true else (decide ((a0.Aa.length:Int)>40)))==false)=true then g95 a0.Aa else some default).bind fun r3=>
(if ((bif (!r1) then true else (decide ((a0.Aa.length:Int)>40)))==false)=true then g59 r3 1 (IntKind.i64.wrap (a0.Ab.next-1)) else some default).bind fun r5=>
(if ((bif (bif (bif (!r1) then true else (decide ((a0.Aa.length:Int)>40))) then true else (!r5)) then true else (decide ((a0.Ae.length:Int)>80)))==false)=true then g59 a0.Ae 1 (IntKind.i64.wrap (a0.Ab.next-1)) else some default).bind fun r7=>
Bs ((bif (bif (bif (bif (!r1) then true else (decide ((a0.Aa.length:Int)>40))) then true else (!r5)) then true else (decide ((a0.Ae.length:Int)>80))) then true else (!r7))) fun v9=>
if v9=true then
some false
else
(g96 a0).bind fun r12=>
(if ((!r12.2)==true)=true then g95 a0.Aa else some default).bind fun r14=>
(if ((!r12.2)==true)=true then g97 r14 (fun z98_0=>g98 z98_0 a0) else some default).bind fun r16=>
some (bif (!r12.2) then r16 else false)
noncomputable def Sz (a0:Int) (s:(List UInt8)×Int):Option (((List UInt8)×Int)⊕((List UInt8))):=
match s with
| (p6,p7)=>
if (decide (p7≥0))=true then
if 0≤(IntKind.i64.wrap (4*p7)) then
(El ([48,49,50,51,52,53,54,55,56,57,97,98,99,100,101,102]:List UInt8) (Ym .i64 (Kc .i64 a0 (IntKind.i64.wrap (4*p7))) 15)).bind fun y18=>
if (p6.length+([y18]:List UInt8).length)*1≤140737488355328 then
some (.inl ((p6++([y18]:List UInt8)),(IntKind.i64.wrap (p7-1))))
else none
else none
else
some (.inr p6)
noncomputable def jS (a0:Int):Option (List UInt8):=
(Ce (Sz a0) ([],15)).bind fun r21=>
(match r21 with
| p15=>
some p15)
noncomputable def wY (a0:Bool) (a1:List UInt8) (a2:List UInt8):Option (List UInt8):=
if a0=true then
some a1
else
some a2
noncomputable def Wi (a0:Ag) (s:(List Bd)×Int):Option (((List Bd)×Int)⊕((List Bd))):=
match s with
| (p12,p13)=>
if (decide (p13<(a0.Aa.length:Int)))=true then
(El a0.Aa p13).bind fun y29=>
(jS y29.Bb).bind fun r31=>
if ([105,110,116,101,110,116,47]:List UInt8).length+r31.length≤9223372036854775807 then
(wY y29.Ij ([117,110,100,111]:List UInt8) ([98,101,103,117,110]:List UInt8)).bind fun r34=>
if (p12.length+([(Bd.mk (([105,110,116,101,110,116,47]:List UInt8)++r31) r34)]:List Bd).length)*32≤140737488355328 then
Bs (p12++([(Bd.mk (([105,110,116,101,110,116,47]:List UInt8)++r31) r34)]:List Bd)) fun v37=>
some (.inl (v37,(IntKind.i64.wrap (p13+1))))
else none
else none
else
some (.inr p12)
noncomputable def Wj (a0:Ag) (s:(List Bd)×Int):Option (((List Bd)×Int)⊕((List Bd))):=
match s with
| (p58,p59)=>
if (decide (p59<(a0.Ab.Ac.length:Int)))=true then
(El a0.Ab.Ac p59).bind fun y81=>
(jS y81.id).bind fun r83=>
if ([108,101,97,115,101,47]:List UInt8).length+r83.length≤9223372036854775807 then
(jS y81.Bn).bind fun r86=>
(jS y81.cap).bind fun r88=>
if r86.length+r88.length≤9223372036854775807 then
(wY y81.Cg ([113,117,101,117,101,100]:List UInt8) ([108,105,118,101]:List UInt8)).bind fun r91=>
if (r86++r88).length+r91.length≤9223372036854775807 then
if (p58.length+([(Bd.mk (([108,101,97,115,101,47]:List UInt8)++r83) ((r86++r88)++r91))]:List Bd).length)*32≤140737488355328 then
Bs (p58++([(Bd.mk (([108,101,97,115,101,47]:List UInt8)++r83) ((r86++r88)++r91))]:List Bd)) fun v95=>
some (.inl (v95,(IntKind.i64.wrap (p59+1))))
else none
else none
else none
else none
else
some (.inr p58)
noncomputable def Alw (a0:Ag):Option (List Bd):=
(Ce (Wi a0) ([],0)).bind fun r39=>
(match r39 with
| p27=>
(Ce (Wj a0) (p27,0)).bind fun r97=>
(match r97 with
| p79=>
(jS a0.Ab.clock).bind fun r99=>
(jS a0.Ab.next).bind fun r101=>
if r99.length+r101.length≤9223372036854775807 then
(wY a0.Ai ([115,101,97,108,101,100]:List UInt8) ([111,112,101,110]:List UInt8)).bind fun r104=>
if (r99++r101).length+r104.length≤9223372036854775807 then
if (p79.length+([(Bd.mk ([118,97,117,108,116]:List UInt8) ((r99++r101)++r104))]:List Bd).length)*32≤140737488355328 then
Bs (p79++([(Bd.mk ([118,97,117,108,116]:List UInt8) ((r99++r101)++r104))]:List Bd)) fun v108=>
some v108
else none
else none
else none))
noncomputable def Alh (a0:Ag):Option ((List Bd)×Int):=
(g48 a0).bind fun r1=>
if (!r1)=true then
some ([],1)
else
(Alw a0).bind fun r4=>
some (r4,0)
noncomputable def g87 (a0:List Int):Option Bool:=
some (decide ((a0.length:Int)≤4096))
def fH (a0:List Int):Option (List Int):=if ([]:List Int).length+a0.length≤17592186044416 then some a0 else none
noncomputable def g321 (a0:List Bd):Option Bool:=
some (decide ((a0.length:Int)≤4096))
noncomputable def qQ (a0:List UInt8):Option Bool:=
(bI (a0.length:Int) 1 60).bind fun r1=>
some r1
noncomputable def Ss (a0:List Bd) (s:Int):Option ((Int)⊕(Unit⊕Bool)):=
match s with
| p11=>
if (decide (p11<(a0.length:Int)))=true then
(El a0 p11).bind fun y24=>
(qQ y24.key).bind fun r26=>
(if (((bif (!r26) then true else (decide ((y24.value.length:Int)>400)))==false)&&((decide (p11>0))==true))=true then El a0 (IntKind.i64.wrap (p11-1)) else some default).bind fun y28=>
Bs ((bif (bif (!r26) then true else (decide ((y24.value.length:Int)>400))) then true else (bif (decide (p11>0)) then (!(Op.bytesLess y28.key y24.key)) else false))) fun v30=>
if v30=true then
some (.inr (.inr false))
else
some (.inl (IntKind.i64.wrap (p11+1)))
else
some (.inr (.inl ()))
noncomputable def Alx (a0:List Bd):Option Bool:=
(Ce (Ss a0) 0).bind fun r33=>
(match r33 with
| .inl ()=>
some (decide ((a0.length:Int)≤100))
| .inr q=>some q)
noncomputable def AlG (a0:List UInt8) (a1:List UInt8):Option Bool:=
(if ((decide ((a0.length:Int)≥(a1.length:Int)))==true)=true then Lp a0 0 (a1.length:Int) else some default).bind fun s1=>
Bs ((bif (decide ((a0.length:Int)≥(a1.length:Int))) then (s1==a1) else false)) fun v3=>
some v3
noncomputable def AlF (a0:List UInt8) (a1:List UInt8):Option ((List UInt8)×Bool):=
(AlG a0 a1).bind fun r1=>
if (!r1)=true then
some (a0,false)
else
(Lp a0 (a1.length:Int) (a0.length:Int)).bind fun s4=>
some (s4,true)
noncomputable def aI (a0:List UInt8) (a1:List UInt8):Option ((List UInt8)×Bool):=
(AlF a0 a1).bind fun r1=>
some (r1.1,r1.2)
noncomputable def g370 (a0:List UInt8) (a1:UInt8):Option Int:=
some (bX a0 ((a1).toNat:Int))
noncomputable def AlB (a0:List UInt8) (a1:UInt8):Option Int:=
(g370 a0 a1).bind fun r1=>
some r1
noncomputable def Jj (s6:List UInt8) (s:Int×Int):Option ((Int×Int)⊕(Int⊕(Int×(List UInt8)×Bool))):=
match s with
| (p14,p15)=>
if (decide (p15<(s6.length:Int)))=true then
(El s6 p15).bind fun y26=>
(AlB ([48,49,50,51,52,53,54,55,56,57,97,98,99,100,101,102]:List UInt8) y26).bind fun r28=>
if (decide (r28<0))=true then
some (.inr (.inr (0,([]:List UInt8),false)))
else
some (.inl ((ior .i64 (fP .i64 p14 4) r28),(IntKind.i64.wrap (p15+1))))
else
some (.inr (.inl p14))
noncomputable def fL (a0:List UInt8):Option (Int×(List UInt8)×Bool):=
(if ((decide ((a0.length:Int)<16))==false)=true then El a0 0 else some default).bind fun y1=>
Bs ((bif (decide ((a0.length:Int)<16)) then true else (decide (((y1).toNat:Int)>55)))) fun v3=>
if v3=true then
some (0,([]:List UInt8),false)
else
(Lp a0 0 16).bind fun s6=>
(Ce (Jj s6) (0,0)).bind fun r31=>
(match r31 with
| .inl p24=>
(Lp a0 16 (a0.length:Int)).bind fun s33=>
some (p24,s33,true)
| .inr q=>some q)
noncomputable def mQ (a0:List UInt8) (a1:List UInt8) (a2:List UInt8):Option (Int×Int×Bool×Bool):=
(fL a0).bind fun r1=>
(fL r1.2.1).bind fun r3=>
Bs ((bif (bif r1.2.2 then r3.2.2 else false) then (bif (r3.2.1==a1) then true else (r3.2.1==a2)) else false)) fun v5=>
some (r1.1,r3.1,(r3.2.1==a1),v5)
noncomputable def fK (a0:Ag) (a1:Bd):Option (Bool×Ag):=
(aI a1.key ([105,110,116,101,110,116,47]:List UInt8)).bind fun r1=>
if r1.2=true then
(fL r1.1).bind fun r4=>
if (a0.Aa.length+([(Ad.mk r4.1 (a1.value==([117,110,100,111]:List UInt8)))]:List Ad).length)*16≤140737488355328 then
Bs (a0.Aa++([(Ad.mk r4.1 (a1.value==([117,110,100,111]:List UInt8)))]:List Ad)) fun v7=>
Bs ((bif (bif r4.2.2 then (r4.2.1==([]:List UInt8)) else false) then (bif (a1.value==([117,110,100,111]:List UInt8)) then true else (a1.value==([98,101,103,117,110]:List UInt8))) else false)) fun v9=>
some (v9,(Ag.mk a0.Ab v7 a0.Ae a0.Ai))
else none
else
(aI a1.key ([108,101,97,115,101,47]:List UInt8)).bind fun r11=>
if r11.2=true then
(fL r11.1).bind fun r14=>
(mQ a1.value ([113,117,101,117,101,100]:List UInt8) ([108,105,118,101]:List UInt8)).bind fun r16=>
if (a0.Ab.Ac.length+([(Af.mk r14.1 r16.1 r16.2.1 r16.2.2.1)]:List Af).length)*32≤140737488355328 then
Bs (a0.Ab.Ac++([(Af.mk r14.1 r16.1 r16.2.1 r16.2.2.1)]:List Af)) fun v19=>
Bs ((bif (bif r14.2.2 then (r14.2.1==([]:List UInt8)) else false) then r16.2.2.2 else false)) fun v21=>
some (v21,(Ag.mk (Ak.mk a0.Ab.clock a0.Ab.next v19) a0.Aa a0.Ae a0.Ai))
else none
else
(mQ a1.value ([115,101,97,108,101,100]:List UInt8) ([111,112,101,110]:List UInt8)).bind fun r23=>
Bs ((bif (a1.key==([118,97,117,108,116]:List UInt8)) then r23.2.2.2 else false)) fun v25=>
some (v25,(Ag.mk (Ak.mk r23.1 r23.2.1 a0.Ab.Ac) a0.Aa a0.Ae r23.2.2.1))
noncomputable def Sp (a0:List Bd) (s:Int×Int×Int×(List Af)×(List Ad)×(List Int)×Bool):Option ((Int×Int×Int×(List Af)×(List Ad)×(List Int)×Bool)⊕((Int×Int×(List Af)×(List Ad)×(List Int)×Bool)⊕(Ag×Int))):=
match s with
| (p17,p18,p19,p20,p21,p22,p23)=>
if (decide (p17<(a0.length:Int)))=true then
(El a0 p17).bind fun y44=>
(fK (Ag.mk (Ak.mk p18 p19 p20) p21 p22 p23) y44).bind fun r46=>
if (!r46.1)=true then
some (.inr (.inr ((Ag.mk (Ak.mk 0 0 ([]:List Af)) ([]:List Ad) ([]:List Int) false),3)))
else
some (.inl ((IntKind.i64.wrap (p17+1)),r46.2.Ab.clock,r46.2.Ab.next,r46.2.Ab.Ac,r46.2.Aa,r46.2.Ae,r46.2.Ai))
else
some (.inr (.inl (p18,p19,p20,p21,p22,p23)))
noncomputable def Ali (a0:List Bd) (a1:List Int):Option (Ag×Int):=
(g321 a0).bind fun r1=>
(if ((!r1)==false)=true then g87 a1 else some default).bind fun r3=>
if (bif (!r1) then true else (!r3))=true then
some ((Ag.mk (Ak.mk 0 0 ([]:List Af)) ([]:List Ad) ([]:List Int) false),2)
else
(Alx a0).bind fun r6=>
if (!r6)=true then
some ((Ag.mk (Ak.mk 0 0 ([]:List Af)) ([]:List Ad) ([]:List Int) false),1)
else
(fH a1).bind fun r9=>
(Ce (Sp a0) (0,0,0,([]:List Af),([]:List Ad),r9,false)).bind fun r49=>
(match r49 with
| .inl (p37,p38,p39,p40,p41,p42)=>
(g48 (Ag.mk (Ak.mk p37 p38 p39) p40 p41 p42)).bind fun r51=>
if (!r51)=true then
some ((Ag.mk (Ak.mk 0 0 ([]:List Af)) ([]:List Ad) ([]:List Int) false),13)
else
some ((Ag.mk (Ak.mk p37 p38 p39) p40 p41 p42),0)
| .inr q=>some q)
noncomputable def Wf (a0:List Bd) (a1:List Bd) (s:Int):Option ((Int)⊕(Unit⊕Bool)):=
match s with
| p8=>
if (decide (p8<(a0.length:Int)))=true then
(El a0 p8).bind fun y17=>
(El a1 p8).bind fun y19=>
if (!((y17.key==y19.key)&&((y17.value==y19.value)&&true)))=true then
some (.inr (.inr false))
else
some (.inl (IntKind.i64.wrap (p8+1)))
else
some (.inr (.inl ()))
noncomputable def Alj (a0:List Bd) (a1:List Bd):Option Bool:=
if ((a0.length:Int) != (a1.length:Int))=true then
some false
else
(Ce (Wf a0 a1) 0).bind fun r22=>
(match r22 with
| .inl ()=>
some true
| .inr q=>some q)
noncomputable def cR (a0:Ak) (a1:Ak) (s:Int):Option ((Int)⊕(Unit⊕Bool)):=
match s with
| p12=>
if (decide (p12<(a0.Ac.length:Int)))=true then
(El a0.Ac p12).bind fun y23=>
(El a1.Ac p12).bind fun y25=>
Bs ((!((y23.id==y25.id)&&((y23.Bn==y25.Bn)&&((y23.cap==y25.cap)&&((y23.Cg==y25.Cg)&&true)))))) fun v27=>
if v27=true then
some (.inr (.inr false))
else
some (.inl (IntKind.i64.wrap (p12+1)))
else
some (.inr (.inl ()))
noncomputable def g41 (a0:Ak) (a1:Ak):Option Bool:=
Bs ((bif (bif (a0.clock != a1.clock) then true else (a0.next != a1.next)) then true else ((a0.Ac.length:Int) != (a1.Ac.length:Int)))) fun v1=>
if v1=true then
some false
else
(Ce (cR a0 a1) 0).bind fun r30=>
(match r30 with
| .inl ()=>
some true
| .inr q=>some q)
noncomputable def cU (a0:List Int) (a1:List Int) (s:Int):Option ((Int)⊕(Unit⊕Bool)):=
match s with
| p8=>
if (decide (p8<(a0.length:Int)))=true then
(El a0 p8).bind fun y17=>
(El a1 p8).bind fun y19=>
if (y17 != y19)=true then
some (.inr (.inr false))
else
some (.inl (IntKind.i64.wrap (p8+1)))
else
some (.inr (.inl ()))
noncomputable def g52 (a0:List Int) (a1:List Int):Option Bool:=
if ((a0.length:Int) != (a1.length:Int))=true then
some false
else
(Ce (cU a0 a1) 0).bind fun r22=>
(match r22 with
| .inl ()=>
some true
| .inr q=>some q)
noncomputable def Wg (a0:Ag) (a1:Ag) (s:Int):Option ((Int)⊕(Unit⊕Bool)):=
match s with
| p14=>
if (decide (p14<(a0.Aa.length:Int)))=true then
(El a0.Aa p14).bind fun y23=>
(El a1.Aa p14).bind fun y25=>
if (!((y23.Bb==y25.Bb)&&((y23.Ij==y25.Ij)&&true)))=true then
some (.inr (.inr false))
else
some (.inl (IntKind.i64.wrap (p14+1)))
else
some (.inr (.inl ()))
noncomputable def IP (a0:Ag) (a1:Ag):Option Bool:=
(g41 a0.Ab a1.Ab).bind fun r1=>
(if ((bif (bif (!r1) then true else (!(a0.Ai==a1.Ai))) then true else ((a0.Aa.length:Int) != (a1.Aa.length:Int)))==false)=true then g52 a0.Ae a1.Ae else some default).bind fun r3=>
Bs ((bif (bif (bif (!r1) then true else (!(a0.Ai==a1.Ai))) then true else ((a0.Aa.length:Int) != (a1.Aa.length:Int))) then true else (!r3))) fun v5=>
if v5=true then
some false
else
(Ce (Wg a0 a1) 0).bind fun r28=>
(match r28 with
| .inl ()=>
some true
| .inr q=>some q)
noncomputable def g267 (a0:Ay):Option Ay:=
(fI a0).bind fun r1=>
some (Ay.mk r1 ([]:List Aw))
noncomputable def Sv (a0:Int) (a1:Int) (s:(List UInt8)×Int):Option (((List UInt8)×Int)⊕((List UInt8))):=
match s with
| (p9,p10)=>
if (decide (p10<((List.replicate a1.toNat (0:UInt8)).length:Int)))=true then
if 0≤(IntKind.i64.wrap (8*p10)) then
(El p9 (IntKind.i64.wrap ((IntKind.i64.wrap (a1-1))-p10))).bind fun y22=>
(p9[(IntKind.i64.wrap ((IntKind.i64.wrap (a1-1))-p10)).toNat]?).bind fun y24=>
some (.inl ((p9.set ((IntKind.i64.wrap ((IntKind.i64.wrap (a1-1))-p10)).toNat) (b8 (Kc .i64 a0 (IntKind.i64.wrap (8*p10))))),(IntKind.i64.wrap (p10+1))))
else none
else
some (.inr p9)
noncomputable def jP (a0:Int) (a1:Int):Option (List UInt8):=
if 0≤a1 then
if a1*1≤140737488355328 then
(Ce (Sv a0 a1) ((List.replicate a1.toNat (0:UInt8)),0)).bind fun r26=>
(match r26 with
| p19=>
some p19)
else none
else none
noncomputable def Als (a0:List UInt8):Option (List UInt8):=
(jP (IntKind.i64.wrap ((a0.length:Int)+1)) 2).bind fun r1=>
if (r1.length+a0.length)*1≤140737488355328 then
(IV (r1++a0)).bind fun r4=>
(jP r4 4).bind fun r6=>
if ((r1++a0).length+r6.length)*1≤140737488355328 then
some ((r1++a0)++r6)
else none
else none
noncomputable def Alr (a0:Ay) (a1:List UInt8):Option (Ay×Int):=
if (decide ((a1.length:Int)>2000))=true then
some ((Ay.mk ([]:List UInt8) ([]:List Aw)),4)
else
(fI a0).bind fun r2=>
(fJ r2).bind fun r4=>
(Als a1).bind fun r6=>
(qN r4.2 (r6.length:Int)).bind fun r8=>
if (!r8)=true then
some ((Ay.mk ([]:List UInt8) ([]:List Aw)),9)
else
(IU a0 r4.2 r6).bind fun r11=>
(g267 r11).bind fun r13=>
some (r13,0)
noncomputable def AlI (a0:List Ar):Option Bool:=
some (decide ((a0.length:Int)≤4096))
noncomputable def tZ (a0:List Ar) (is1:Ar→Option Bool) (s:Int):Option ((Int)⊕(Unit⊕Int)):=
match s with
| p7=>
if (decide (p7<(a0.length:Int)))=true then
(El a0 p7).bind fun y16=>
(is1 y16).bind fun r18=>
if r18=true then
some (.inr (.inr p7))
else
some (.inl (IntKind.i64.wrap (p7+1)))
else
some (.inr (.inl ()))
noncomputable def g429 (a0:List Ar) (is1:Ar→Option Bool):Option Int:=
(Ce (tZ a0 is1) 0).bind fun r21=>
(match r21 with
| .inl ()=>
some (-1)
| .inr q=>some q)
noncomputable def AlZ (a0:List Ar) (is1:Ar→Option Bool):Option Bool:=
(g429 a0 is1).bind fun r1=>
some (decide (r1≥0))
noncomputable def Amb (a0:Ar) (is1:Ar→Option Bool):Option Bool:=
(is1 a0).bind fun r1=>
some (!r1)
noncomputable def AlS (a0:List Ar) (is1:Ar→Option Bool):Option Bool:=
(AlZ a0 (fun z425_0=>Amb z425_0 is1)).bind fun r1=>
some (!r1)
noncomputable def qS (a0:Ar):Option Bool:=
(qQ a0.key).bind fun r1=>
Bs ((bif (bif r1 then (decide ((a0.value.length:Int)≤400)) else false) then (bif (!a0.Li) then true else (a0.value==([]:List UInt8))) else false)) fun v3=>
some v3
noncomputable def AlK (a0:List Ar):Option Bool:=
(if ((decide ((a0.length:Int)≤30))==true)=true then AlS a0 (fun z414_0=>qS z414_0) else some default).bind fun r1=>
some (bif (decide ((a0.length:Int)≤30)) then r1 else false)
noncomputable def Wn (p14:List UInt8) (p15:Int) (y33:Ar) (p38:Int):Option (((List UInt8)×Int)⊕((List UInt8))):=
(jP p38 2).bind fun r39=>
if (((p14++([b8 (y33.key.length:Int)]:List UInt8))++y33.key).length+r39.length)*1≤140737488355328 then
if ((((p14++([b8 (y33.key.length:Int)]:List UInt8))++y33.key)++r39).length+y33.value.length)*1≤140737488355328 then
Bs ((((p14++([b8 (y33.key.length:Int)]:List UInt8))++y33.key)++r39)++y33.value) fun v43=>
some (.inl (v43,(IntKind.i64.wrap (p15+1))))
else none
else none
noncomputable def bD (a0:List Ar) (s:(List UInt8)×Int):Option (((List UInt8)×Int)⊕((List UInt8))):=
match s with
| (p14,p15)=>
if (decide (p15<(a0.length:Int)))=true then
(El a0 p15).bind fun y33=>
if (p14.length+([b8 (y33.key.length:Int)]:List UInt8).length)*1≤140737488355328 then
if ((p14++([b8 (y33.key.length:Int)]:List UInt8)).length+y33.key.length)*1≤140737488355328 then
if y33.Li=true then
Wn p14 p15 y33 0
else
Wn p14 p15 y33 (IntKind.i64.wrap ((y33.value.length:Int)+1))
else none
else none
else
some (.inr p14)
noncomputable def AlM (a0:List Ar):Option (List UInt8):=
(Ce (bD a0) ([],0)).bind fun r47=>
(match r47 with
| p31=>
some p31)
def AlQ (a0:List Bd):Option (List Bd):=if ([]:List Bd).length+a0.length≤4398046511104 then some a0 else none
noncomputable def bH (a0:List Bd) (a1:List UInt8) (is2:Bd→(List UInt8)→Option Int) (s:Int×Int):Option ((Int×Int)⊕(Int)):=
match s with
| (p9,p10)=>
if (decide (p9<p10))=true then
Bs (IntKind.i64.wrap (Kc .u64 (IntKind.u64.wrap (IntKind.i64.wrap (p9+p10))) 1)) fun v23=>
(El a0 v23).bind fun y25=>
(is2 y25 a1).bind fun r27=>
if (decide (r27<0))=true then
some (.inl ((IntKind.i64.wrap (v23+1)),p10))
else
some (.inl (p9,v23))
else
some (.inr p9)
noncomputable def AlV (a0:List Bd) (a1:List UInt8) (is2:Bd→(List UInt8)→Option Int):Option (Int×Bool):=
(Ce (bH a0 a1 is2) (0,(a0.length:Int))).bind fun r30=>
(match r30 with
| p21=>
(if ((decide (p21<(a0.length:Int)))==true)=true then El a0 p21 else some default).bind fun y32=>
(if ((decide (p21<(a0.length:Int)))==true)=true then is2 y32 a1 else some default).bind fun r34=>
some (p21,(bif (decide (p21<(a0.length:Int))) then (r34==0) else false)))
noncomputable def g427 (a0:List UInt8) (a1:List UInt8):Option Int:=
some (jD a0 a1)
noncomputable def g418 (a0:List UInt8) (a1:List UInt8):Option Int:=
(g427 a0 a1).bind fun r1=>
some r1
noncomputable def qT (a0:Bd) (a1:List UInt8):Option Int:=
(g418 a0.key a1).bind fun r1=>
some r1
def AlX (a0:List Bd) (a1:Int) (a2:Int):Option (List Bd):=if (0≤a1∧a1≤a2∧a2≤(a0.length:Int))∧a0.length≤4398046511104 then some (a0.take a1.toNat++a0.drop a2.toNat) else none
def AlY (a0:List Bd) (a1:Int) (a2:List Bd):Option ((List Bd)×(List Bd)):=if (0≤a1∧a1≤(a0.length:Int))∧0<a2.length∧a0.length+a2.length≤4398046511104 then some (a0.take a1.toNat++a2++a0.drop a1.toNat,a2) else none
noncomputable def bF (p18:Int) (p49:List Bd):Option (((List Bd)×Int)⊕((List Bd))):=
some (.inl (p49,(IntKind.i64.wrap (p18+1))))
noncomputable def Wo (p18:Int) (y51:Ar) (r53:Int×Bool) (p58:List Bd):Option (((List Bd)×Int)⊕((List Bd))):=
if (!y51.Li)=true then
(AlY p58 r53.1 ([(Bd.mk y51.key y51.value)]:List Bd)).bind fun r60=>
if r60.2.length=([(Bd.mk y51.key y51.value)]:List Bd).length then
bF p18 r60.1
else none
else
bF p18 p58
noncomputable def Tb (a1:List Ar) (s:(List Bd)×Int):Option (((List Bd)×Int)⊕((List Bd))):=
match s with
| (p17,p18)=>
if (decide (p18<(a1.length:Int)))=true then
(El a1 p18).bind fun y51=>
(AlV p17 y51.key (fun z417_0 z417_1=>qT z417_0 z417_1)).bind fun r53=>
if r53.2=true then
(AlX p17 r53.1 (IntKind.i64.wrap (r53.1+1))).bind fun r65=>
Wo p18 y51 r53 r65
else
Wo p18 y51 r53 p17
else
some (.inr p17)
noncomputable def IX (a0:List Bd) (a1:List Ar):Option ((List Bd)×Bool):=
(AlQ a0).bind fun r1=>
(Ce (Tb a1) (r1,0)).bind fun r67=>
(match r67 with
| p35=>
some (p35,(decide ((p35.length:Int)≤100))))
noncomputable def qU (a0:List UInt8) (a1:Int):Option ((List UInt8)×(List UInt8)×Bool):=
if (decide (a1>(a0.length:Int)))=true then
some ([],[],false)
else
(Lp a0 0 a1).bind fun s2=>
(Lp a0 a1 (a0.length:Int)).bind fun s4=>
some (s2,s4,true)
noncomputable def AlU (a0:List UInt8):Option (Ar×(List UInt8)×Bool):=
(Lp a0 1 (a0.length:Int)).bind fun s1=>
(El a0 0).bind fun y3=>
(qU s1 (IntKind.i64.wrap ((y3).toNat:Int))).bind fun r5=>
if (!r5.2.2)=true then
some ((Ar.mk ([]:List UInt8) ([]:List UInt8) false),[],false)
else
(qU r5.2.1 2).bind fun r8=>
if (!r8.2.2)=true then
some ((Ar.mk ([]:List UInt8) ([]:List UInt8) false),[],false)
else
(qP r8.1).bind fun r11=>
(qU r8.2.1 (if 0>(IntKind.i64.wrap (r11-1)) then 0 else (IntKind.i64.wrap (r11-1)))).bind fun r13=>
some ((Ar.mk r5.1 r13.1 (r11==0)),r13.2.1,r13.2.2)
noncomputable def bE  (s:(List UInt8)×(List Ar)):Option (((List UInt8)×(List Ar))⊕((List Ar)⊕((List Ar)×Bool))):=
match s with
| (p10,p11)=>
if (decide ((p10.length:Int)>0))=true then
(AlU p10).bind fun r25=>
(if ((bif (!r25.2.2) then true else ((p11.length:Int)==30))==false)=true then qS r25.1 else some default).bind fun r27=>
Bs ((bif (bif (!r25.2.2) then true else ((p11.length:Int)==30)) then true else (!r27))) fun v29=>
if v29=true then
some (.inr (.inr ([],false)))
else
if (p11.length+([r25.1]:List Ar).length)*40≤140737488355328 then
some (.inl (r25.2.1,(p11++([r25.1]:List Ar))))
else none
else
some (.inr (.inl p11))
noncomputable def AlO (a0:List UInt8):Option ((List Ar)×Bool):=
(Ce (bE) (a0,[])).bind fun r33=>
(match r33 with
| .inl p23=>
some (p23,true)
| .inr q=>some q)
noncomputable def bG (r3:(List (List UInt8))×Int) (s:(List Bd)×Int):Option (((List Bd)×Int)⊕((List Bd))):=
match s with
| (p16,p17)=>
if (decide (p17<(r3.1.length:Int)))=true then
(El r3.1 p17).bind fun y33=>
(r3.1[p17.toNat]?).bind fun y35=>
(AlO y35).bind fun r37=>
if (!r37.2)=true then
some (.inr p16)
else
(IX p16 r37.1).bind fun r40=>
if (!r40.2)=true then
some (.inr p16)
else
some (.inl (r40.1,(IntKind.i64.wrap (p17+1))))
else
some (.inr p16)
noncomputable def xA (a0:Ay):Option (List Bd):=
(fI a0).bind fun r1=>
(fJ r1).bind fun r3=>
(Ce (bG r3) ([],0)).bind fun r43=>
(match r43 with
| p31=>
some p31)
noncomputable def qR (a0:Ay) (a1:List Ar):Option (Ay×Int):=
(AlI a1).bind fun r1=>
if (!r1)=true then
some ((Ay.mk ([]:List UInt8) ([]:List Aw)),2)
else
(mP a0).bind fun r4=>
(if ((!r4)==false)=true then AlK a1 else some default).bind fun r6=>
if (bif (!r4) then true else (!r6))=true then
some ((Ay.mk ([]:List UInt8) ([]:List Aw)),1)
else
(xA a0).bind fun r9=>
(IX r9 a1).bind fun r11=>
if (!r11.2)=true then
some ((Ay.mk ([]:List UInt8) ([]:List Aw)),9)
else
(AlM a1).bind fun r14=>
(Alr a0 r14).bind fun r16=>
some (r16.1,r16.2)
noncomputable def AlH (a0:Ay):Option ((List Bd)×Int):=
(mP a0).bind fun r1=>
if (!r1)=true then
some ([],1)
else
(xA a0).bind fun r4=>
some (r4,0)
noncomputable def g455 (a0:List Aj):Option Bool:=
some (decide ((a0.length:Int)≤4096))
noncomputable def uA (a0:List Aj) (is1:Aj→Option Bool) (s:Int):Option ((Int)⊕(Unit⊕Int)):=
match s with
| p7=>
if (decide (p7<(a0.length:Int)))=true then
(El a0 p7).bind fun y16=>
(is1 y16).bind fun r18=>
if r18=true then
some (.inr (.inr p7))
else
some (.inl (IntKind.i64.wrap (p7+1)))
else
some (.inr (.inl ()))
noncomputable def g468 (a0:List Aj) (is1:Aj→Option Bool):Option Int:=
(Ce (uA a0 is1) 0).bind fun r21=>
(match r21 with
| .inl ()=>
some (-1)
| .inr q=>some q)
noncomputable def Amh (a0:List Aj) (is1:Aj→Option Bool):Option Bool:=
(g468 a0 is1).bind fun r1=>
some (decide (r1≥0))
noncomputable def Amj (a0:Aj) (is1:Aj→Option Bool):Option Bool:=
(is1 a0).bind fun r1=>
some (!r1)
noncomputable def Amf (a0:List Aj) (is1:Aj→Option Bool):Option Bool:=
(Amh a0 (fun z462_0=>Amj z462_0 is1)).bind fun r1=>
some (!r1)
noncomputable def g88 (a0:Int):Option Bool:=
(bI a0 0 2).bind fun r1=>
some r1
noncomputable def xB (a0:Aj):Option Bool:=
(g87 a0.Cp).bind fun r1=>
(if (r1==true)=true then g97 a0.Cp (fun z88_0=>g88 z88_0) else some default).bind fun r3=>
(if ((bif r1 then r3 else false)==true)=true then bI a0.stop 0 2 else some default).bind fun r5=>
some (bif (bif r1 then r3 else false) then r5 else false)
noncomputable def g458  : Option Ag:=
some (Ag.mk (Ak.mk 0 1 ([]:List Af)) ([]:List Ad) ([]:List Int) false)
def g66 (a0:List Af):Option (List Af):=if ([]:List Af).length+a0.length≤4398046511104 then some a0 else none
noncomputable def jM (a0:Ak):Option Ak:=
(g66 a0.Ac).bind fun r1=>
some (Ak.mk a0.clock a0.next r1)
noncomputable def g75 (a0:Ak) (a1:Int):Option (Ak×Int):=
(NG a0 a1).bind fun r1=>
if (!r1.2)=true then
some ((Ak.mk 0 0 ([]:List Af)),5)
else
(jM a0).bind fun r4=>
(El r4.Ac r1.1).bind fun y6=>
(r4.Ac[r1.1.toNat]?).bind fun y8=>
some ((Ak.mk r4.clock r4.next (r4.Ac.set r1.1.toNat (Af.mk y8.id y8.Bn y8.cap true))),0)
noncomputable def g54 (a0:Int) (a1:Int):Option Int:=
if (decide (a0>(IntKind.i64.wrap (9223372036854775807-a1))))=true then
some 9223372036854775807
else
some (IntKind.i64.wrap (a0+a1))
noncomputable def g80 (a0:Ak) (a1:Int) (a2:Int):Option (Ak×Int):=
(NG a0 a1).bind fun r1=>
if (decide (a2<1))=true then
some ((Ak.mk 0 0 ([]:List Af)),4)
else
if (!r1.2)=true then
some ((Ak.mk 0 0 ([]:List Af)),5)
else
(El a0.Ac r1.1).bind fun y5=>
if y5.Cg=true then
some ((Ak.mk 0 0 ([]:List Af)),13)
else
(jM a0).bind fun r8=>
(El r8.Ac r1.1).bind fun y10=>
(r8.Ac[r1.1.toNat]?).bind fun y12=>
(g54 a0.clock a2).bind fun r14=>
Bs (r8.Ac.set r1.1.toNat (Af.mk y12.id (if y12.cap<r14 then y12.cap else r14) y12.cap y12.Cg)) fun v16=>
some ((Ak.mk r8.clock r8.next v16),0)
def qW (a0:List Ad):Option (List Ad):=if ([]:List Ad).length+a0.length≤8796093022208 then some a0 else none
noncomputable def Amk (a0:Ag):Option Ag:=
(jM a0.Ab).bind fun r1=>
(qW a0.Aa).bind fun r3=>
(fH a0.Ae).bind fun r5=>
some (Ag.mk r1 r3 r5 a0.Ai)
noncomputable def fN (a0:Ag) (a1:Int):Option (Ag×Am):=
some (a0,(Am.mk a1 0))
noncomputable def g71 (a0:Ak) (a1:Int) (a2:Int):Option (Ak×Int×Int):=
if (bif (decide (a1<1)) then true else (decide (a2<a1)))=true then
some ((Ak.mk 0 0 ([]:List Af)),0,4)
else
if (a0.clock==9223372036854775807)=true then
some ((Ak.mk 0 0 ([]:List Af)),0,11)
else
Bs ((bif ((a0.Ac.length:Int)==40) then true else (a0.next==1000000))) fun v3=>
if v3=true then
some ((Ak.mk 0 0 ([]:List Af)),0,9)
else
(jM a0).bind fun r6=>
(g54 a0.clock a1).bind fun r8=>
(g54 a0.clock a2).bind fun r10=>
if (r6.Ac.length+([(Af.mk a0.next r8 r10 false)]:List Af).length)*32≤140737488355328 then
some ((Ak.mk r6.clock (IntKind.i64.wrap (r6.next+1)) (r6.Ac++([(Af.mk a0.next r8 r10 false)]:List Af))),a0.next,0)
else none
noncomputable def Tf (a0:Ag) (s:Int×(List Ad)):Option ((Int×(List Ad))⊕((List Ad))):=
match s with
| (p6,p7)=>
if (decide (p6<(a0.Aa.length:Int)))=true then
(El p7 p6).bind fun y17=>
(p7[p6.toNat]?).bind fun y19=>
some (.inl ((IntKind.i64.wrap (p6+1)),(p7.set p6.toNat (Ad.mk y19.Bb true))))
else
some (.inr p7)
noncomputable def jT (a0:Ag):Option (Ag×Am):=
(Ce (Tf a0) (0,a0.Aa)).bind fun r21=>
(match r21 with
| p15=>
some ((Ag.mk a0.Ab p15 a0.Ae true),(Am.mk 15 0)))
noncomputable def AkZ (a0:Int) (a1:Int):Option Bool:=
(mO a0).bind fun r1=>
(if (r1==true)=true then mO a1 else some default).bind fun r3=>
Bs ((bif (bif r1 then (!r3) else false) then true else (decide (a0<a1)))) fun v5=>
some v5
noncomputable def IJ (a0:Int):Option Bool:=
some (a0 != a0)
noncomputable def aU (a0:List Int) (a1:Int) (s:Int×Int):Option ((Int×Int)⊕(Int)):=
match s with
| (p9,p10)=>
if (decide (p9<p10))=true then
Bs (IntKind.i64.wrap (Kc .u64 (IntKind.u64.wrap (IntKind.i64.wrap (p9+p10))) 1)) fun v23=>
(El a0 v23).bind fun y25=>
(AkZ y25 a1).bind fun r27=>
if r27=true then
some (.inl ((IntKind.i64.wrap (v23+1)),p10))
else
some (.inl (p9,v23))
else
some (.inr p9)
noncomputable def AkQ (a0:List Int) (a1:Int):Option (Int×Bool):=
(Ce (aU a0 a1) (0,(a0.length:Int))).bind fun r30=>
(match r30 with
| p21=>
(if ((decide (p21<(a0.length:Int)))==true)=true then El a0 p21 else some default).bind fun y32=>
(if (((decide (p21<(a0.length:Int)))==true)&&((y32==a1)==false))=true then El a0 p21 else some default).bind fun y34=>
(if (((decide (p21<(a0.length:Int)))==true)&&((y32==a1)==false))=true then IJ y34 else some default).bind fun r36=>
(if ((((decide (p21<(a0.length:Int)))==true)&&((y32==a1)==false))&&(r36==true))=true then IJ a1 else some default).bind fun r38=>
Bs ((bif (decide (p21<(a0.length:Int))) then (bif (y32==a1) then true else (bif r36 then r38 else false)) else false)) fun v40=>
some (p21,v40))
def g122 (a0:List Int) (a1:Int) (a2:List Int):Option ((List Int)×(List Int)):=if (0≤a1∧a1≤(a0.length:Int))∧0<a2.length∧a0.length+a2.length≤17592186044416 then some (a0.take a1.toNat++a2++a0.drop a1.toNat,a2) else none
def g123 (a0:List Int) (a1:Int) (a2:Int):Option (List Int):=if (0≤a1∧a1≤a2∧a2≤(a0.length:Int))∧a0.length≤17592186044416 then some (a0.take a1.toNat++a0.drop a2.toNat) else none
noncomputable def Yj (a3:Int) (p13:List Int):Option ((List Int)×Int):=
if (a3==2)=true then
some (p13,15)
else
some (p13,0)
noncomputable def g89 (a0:List Int) (a1:Int) (a2:Bool) (a3:Int):Option ((List Int)×Int):=
(fH a0).bind fun r1=>
if (a3==1)=true then
some (r1,13)
else
(AkQ r1 a1).bind fun r4=>
if (bif a2 then (!r4.2) else false)=true then
(g122 r1 r4.1 ([a1]:List Int)).bind fun r17=>
if r17.2.length=([a1]:List Int).length then
Yj a3 r17.1
else none
else
if (bif (!a2) then r4.2 else false)=true then
(g123 r1 r4.1 (IntKind.i64.wrap (r4.1+1))).bind fun r21=>
Yj a3 r21
else
Yj a3 r1
noncomputable def Wt (a0:Dp) (a1:Int) (a2:Bool) (p4:Int):Option (Int×Dp):=
(g89 a0.v.Ae a1 a2 p4).bind fun r5=>
some (r5.2,(Dp.mk (Ag.mk a0.v.Ab a0.v.Aa r5.1 a0.v.Ai) a0.a (IntKind.i64.wrap (a0.Hl+1))))
noncomputable def jU (a0:Dp) (a1:Int) (a2:Bool):Option (Int×Dp):=
if (decide (a0.Hl<(a0.a.Cp.length:Int)))=true then
(El a0.a.Cp a0.Hl).bind fun y9=>
Wt a0 a1 a2 y9
else
Wt a0 a1 a2 0
noncomputable def Lg (a0:Ag) (a1:Aj) (r1:Ak×Int×Int) (p4:Int):Option (Ag×Am):=
if (p4 != 0)=true then
(fN a0 p4).bind fun r6=>
some (r6.1,r6.2)
else
if (a0.Aa.length+([(Ad.mk r1.2.1 false)]:List Ad).length)*16≤140737488355328 then
if (a1.stop==1)=true then
(jT (Ag.mk (Ak.mk a0.Ab.clock (IntKind.i64.wrap (a0.Ab.next+1)) a0.Ab.Ac) (a0.Aa++([(Ad.mk r1.2.1 false)]:List Ad)) a0.Ae a0.Ai)).bind fun r10=>
some (r10.1,r10.2)
else
(jU (Dp.mk (Ag.mk (Ak.mk a0.Ab.clock (IntKind.i64.wrap (a0.Ab.next+1)) a0.Ab.Ac) (a0.Aa++([(Ad.mk r1.2.1 false)]:List Ad)) a0.Ae a0.Ai) a1 0) r1.2.1 true).bind fun r12=>
if (a1.stop==2)=true then
(jT r12.2.v).bind fun r15=>
some (r15.1,r15.2)
else
if (r12.1 != 0)=true then
(El r12.2.v.Aa (IntKind.i64.wrap ((r12.2.v.Aa.length:Int)-1))).bind fun y18=>
(r12.2.v.Aa[(IntKind.i64.wrap ((r12.2.v.Aa.length:Int)-1)).toNat]?).bind fun y20=>
(fN (Ag.mk r12.2.v.Ab (r12.2.v.Aa.set ((IntKind.i64.wrap ((r12.2.v.Aa.length:Int)-1)).toNat) (Ad.mk y20.Bb true)) r12.2.v.Ae r12.2.v.Ai) r12.1).bind fun r22=>
some (r22.1,r22.2)
else
(Lp r12.2.v.Aa 0 (IntKind.i64.wrap ((r12.2.v.Aa.length:Int)-1))).bind fun s24=>
some ((Ag.mk r1.1 s24 r12.2.v.Ae r12.2.v.Ai),(Am.mk 0 r1.2.1))
else none
noncomputable def Aml (a0:Ag) (a1:Aj):Option (Ag×Am):=
(g71 a0.Ab a1.ttl a1.Fd).bind fun r1=>
if (bif (r1.2.2==0) then ((a0.Aa.length:Int)==40) else false)=true then
Lg a0 a1 r1 9
else
Lg a0 a1 r1 r1.2.2
noncomputable def JB (a0:Ag) (a1:Ak) (a2:Int):Option (Ag×Am):=
if (a2 != 0)=true then
(fN a0 a2).bind fun r2=>
some (r2.1,r2.2)
else
some ((Ag.mk a1 a0.Aa a0.Ae a0.Ai),(Am.mk 0 0))
def g115 (a0:List Af) (a1:Int) (a2:Int):Option (List Af):=if (0≤a1∧a1≤a2∧a2≤(a0.length:Int))∧a0.length≤4398046511104 then some (a0.take a1.toNat++a0.drop a2.toNat) else none
noncomputable def g78 (a0:Ak) (a1:Int):Option Ak:=
(jM a0).bind fun r1=>
(g115 r1.Ac a1 (IntKind.i64.wrap (a1+1))).bind fun r3=>
some (Ak.mk r1.clock r1.next r3)
noncomputable def Wc (a0:List Int) (s:Int):Option ((Int)⊕(Unit⊕Int)):=
match s with
| p5=>
if (decide (p5<(a0.length:Int)))=true then
(El a0 p5).bind fun y12=>
if (y12 != 0)=true then
some (.inr (.inr y12))
else
some (.inl (IntKind.i64.wrap (p5+1)))
else
some (.inr (.inl ()))
noncomputable def AkN (a0:List Int):Option Int:=
(Ce (Wc a0) 0).bind fun r15=>
(match r15 with
| .inl ()=>
some 0
| .inr q=>some q)
noncomputable def g69 (a0:Af) (a1:Af):Option Int:=
(wS a0.Bn a1.Bn).bind fun r1=>
(wS a0.id a1.id).bind fun r3=>
(AkN ([r1,r3]:List Int)).bind fun r5=>
some r5
noncomputable def AkO (a0:List Af) (is1:Af→Af→Option Int):Option (List Af):=vI a0 is1
noncomputable def cX (p21:Int) (p58:List Af) (p59:List Af):Option (((List Af)×(List Af)×Int)⊕((List Af)×(List Af))):=
some (.inl (p58,p59,(IntKind.i64.wrap (p21+1))))
noncomputable def Uz (a0:Ak) (a1:Int) (r1:Ak) (s:(List Af)×(List Af)×Int):Option (((List Af)×(List Af)×Int)⊕((List Af)×(List Af))):=
match s with
| (p19,p20,p21)=>
if (decide (p21<(r1.Ac.length:Int)))=true then
(El p20 p21).bind fun y62=>
(p20[p21.toNat]?).bind fun y64=>
Bs ((bif (!y64.Cg) then (decide (y64.Bn≤(if a1>a0.clock then a1 else a0.clock))) else false)) fun v66=>
if v66=true then
(El p20 p21).bind fun y69=>
(p20[p21.toNat]?).bind fun y71=>
if (p19.length+([y64]:List Af).length)*32≤140737488355328 then
cX p21 (p19++([y64]:List Af)) (p20.set p21.toNat (Af.mk y71.id y71.Bn y71.cap true))
else none
else
cX p21 p19 p20
else
some (.inr (p19,p20))
noncomputable def g82 (a0:Ak) (a1:Int):Option (Ak×(List Int)):=
(jM a0).bind fun r1=>
(Ce (Uz a0 a1 r1) ([],r1.Ac,0)).bind fun r74=>
(match r74 with
| (p43,p44)=>
(AkO p43 (fun z69_0 z69_1=>g69 z69_0 z69_1)).bind fun r76=>
if r76.length=p43.length then
(g60 (Ak.mk 0 0 r76)).bind fun r79=>
some ((Ak.mk (if a1>a0.clock then a1 else a0.clock) r1.next p44),r79)
else none)
noncomputable def qX (a0:Aj) (a1:Dp):Option Bool:=
some (bif (a0.stop==2) then (a1.Hl==1) else false)
noncomputable def uD (a0:List Ad) (is1:Ad→Option Bool) (s:Int):Option ((Int)⊕(Unit⊕Int)):=
match s with
| p7=>
if (decide (p7<(a0.length:Int)))=true then
(El a0 p7).bind fun y16=>
(is1 y16).bind fun r18=>
if r18=true then
some (.inr (.inr p7))
else
some (.inl (IntKind.i64.wrap (p7+1)))
else
some (.inr (.inl ()))
noncomputable def g475 (a0:List Ad) (is1:Ad→Option Bool):Option Int:=
(Ce (uD a0 is1) 0).bind fun r21=>
(match r21 with
| .inl ()=>
some (-1)
| .inr q=>some q)
noncomputable def jV (p20:Int) (p52:List Ad) (p53:Int):Option (((List Ad)×Int×Int)⊕((List Ad)×Int)):=
some (.inl (p52,p53,(IntKind.i64.wrap (p20+1))))
noncomputable def uC (is1:Ad→Option Bool) (s:(List Ad)×Int×Int):Option (((List Ad)×Int×Int)⊕((List Ad)×Int)):=
match s with
| (p18,p19,p20)=>
if (decide (p20<(p18.length:Int)))=true then
(El p18 p20).bind fun y55=>
(p18[p20.toNat]?).bind fun y57=>
(is1 y57).bind fun r59=>
if (!r59)=true then
(El p18 p19).bind fun y62=>
(p18[p19.toNat]?).bind fun y64=>
jV p20 (p18.set p19.toNat y57) (IntKind.i64.wrap (p19+1))
else
jV p20 p18 p19
else
some (.inr (p18,p19))
noncomputable def JC (a0:List Ad) (is1:Ad→Option Bool):Option (List Ad):=
(g475 a0 is1).bind fun r1=>
if (r1==(-1))=true then
some a0
else
(Ce (uC is1) (a0,r1,(IntKind.i64.wrap (r1+1)))).bind fun r66=>
(match r66 with
| (p38,p39)=>
(Lp p38 p39 (p38.length:Int)).bind fun s68=>
(Lp (ovl p38 p39.toNat (List.replicate s68.length (Ad.mk 0 false))) 0 p39).bind fun s70=>
some s70)
noncomputable def JD (a0:Ad) (a1:Ad):Option Bool:=
some (a0.Bb==a1.Bb)
noncomputable def Wr (p43:Int) (p143:Int) (p144:Int) (p145:List Af) (p146:List Ad) (p147:List Int) (p148:Bool) (p149:Int) (p150:Int) (p151:Int) (p152:Int) (p153:Int) (p154:List Int) (p155:Int) (p156:Int):Option ((Int×Int×Int×(List Af)×(List Ad)×(List Int)×Bool×Int×Int×Int×Int×Int×(List Int)×Int×Int)⊕((Int×Int×(List Af)×(List Ad)×(List Int)×Bool×Int×Int×Int×Int×Int×(List Int)×Int×Int)⊕(Ag×Am))):=
some (.inl ((IntKind.i64.wrap (p43+1)),p143,p144,p145,p146,p147,p148,p149,p150,p151,p152,p153,p154,p155,p156))
noncomputable def Td (a1:Aj) (p43:Int) (r163:Int×Dp) (p170:Int) (p171:Int) (p172:List Af):Option ((Int×Int×Int×(List Af)×(List Ad)×(List Int)×Bool×Int×Int×Int×Int×Int×(List Int)×Int×Int)⊕((Int×Int×(List Af)×(List Ad)×(List Int)×Bool×Int×Int×Int×Int×Int×(List Int)×Int×Int)⊕(Ag×Am))):=
(qX a1 (Dp.mk (Ag.mk (Ak.mk p170 p171 p172) r163.2.v.Aa r163.2.v.Ae r163.2.v.Ai) r163.2.a r163.2.Hl)).bind fun r173=>
if r173=true then
(jT (Ag.mk (Ak.mk p170 p171 p172) r163.2.v.Aa r163.2.v.Ae r163.2.v.Ai)).bind fun r176=>
some (.inr (.inr (r176.1,r176.2)))
else
Wr p43 p170 p171 p172 r163.2.v.Aa r163.2.v.Ae r163.2.v.Ai r163.2.a.kind r163.2.a.id r163.2.a.ttl r163.2.a.Fd r163.2.a.clock r163.2.a.Cp r163.2.a.stop r163.2.Hl
noncomputable def Lh (a1:Aj) (r6:(List Af)) (s:Int×Int×Int×(List Af)×(List Ad)×(List Int)×Bool×Int×Int×Int×Int×Int×(List Int)×Int×Int):Option ((Int×Int×Int×(List Af)×(List Ad)×(List Int)×Bool×Int×Int×Int×Int×Int×(List Int)×Int×Int)⊕((Int×Int×(List Af)×(List Ad)×(List Int)×Bool×Int×Int×Int×Int×Int×(List Int)×Int×Int)⊕(Ag×Am))):=
match s with
| (p43,p44,p45,p46,p47,p48,p49,p50,p51,p52,p53,p54,p55,p56,p57)=>
if (decide (p43<(r6.length:Int)))=true then
(El r6 p43).bind fun y158=>
(r6[p43.toNat]?).bind fun y160=>
if (!y160.Cg)=true then
Wr p43 p44 p45 p46 p47 p48 p49 p50 p51 p52 p53 p54 p55 p56 p57
else
(jU (Dp.mk (Ag.mk (Ak.mk p44 p45 p46) p47 p48 p49) (Aj.mk p50 p51 p52 p53 p54 p55 p56) p57) y160.id false).bind fun r163=>
(NG r163.2.v.Ab y160.id).bind fun r165=>
if (r163.1==0)=true then
(g78 r163.2.v.Ab r165.1).bind fun r180=>
Td a1 p43 r163 r180.clock r180.next r180.Ac
else
Td a1 p43 r163 r163.2.v.Ab.clock r163.2.v.Ab.next r163.2.v.Ab.Ac
else
some (.inr (.inl (p44,p45,p46,p47,p48,p49,p50,p51,p52,p53,p54,p55,p56,p57)))
noncomputable def Ws (p217:Int) (p309:Int) (p310:Int) (p311:List Af) (p312:List Ad) (p313:List Int) (p314:Bool) (p315:Int) (p316:Int) (p317:Int) (p318:Int) (p319:Int) (p320:List Int) (p321:Int) (p322:Int):Option ((Int×Int×Int×(List Af)×(List Ad)×(List Int)×Bool×Int×Int×Int×Int×Int×(List Int)×Int×Int)⊕((Int×Int×(List Af)×(List Ad)×(List Int)×Bool×Int×Int×Int×Int×Int×(List Int)×Int×Int)⊕(Ag×Am))):=
some (.inl ((IntKind.i64.wrap (p217+1)),p309,p310,p311,p312,p313,p314,p315,p316,p317,p318,p319,p320,p321,p322))
noncomputable def Te (a1:Aj) (p217:Int) (r329:Int×Dp) (p334:List Ad):Option ((Int×Int×Int×(List Af)×(List Ad)×(List Int)×Bool×Int×Int×Int×Int×Int×(List Int)×Int×Int)⊕((Int×Int×(List Af)×(List Ad)×(List Int)×Bool×Int×Int×Int×Int×Int×(List Int)×Int×Int)⊕(Ag×Am))):=
(qX a1 (Dp.mk (Ag.mk r329.2.v.Ab p334 r329.2.v.Ae r329.2.v.Ai) r329.2.a r329.2.Hl)).bind fun r335=>
if r335=true then
(jT (Ag.mk r329.2.v.Ab p334 r329.2.v.Ae r329.2.v.Ai)).bind fun r338=>
some (.inr (.inr (r338.1,r338.2)))
else
Ws p217 r329.2.v.Ab.clock r329.2.v.Ab.next r329.2.v.Ab.Ac p334 r329.2.v.Ae r329.2.v.Ai r329.2.a.kind r329.2.a.id r329.2.a.ttl r329.2.a.Fd r329.2.a.clock r329.2.a.Cp r329.2.a.stop r329.2.Hl
noncomputable def Jk (a1:Aj) (r184:(List Ad)) (s:Int×Int×Int×(List Af)×(List Ad)×(List Int)×Bool×Int×Int×Int×Int×Int×(List Int)×Int×Int):Option ((Int×Int×Int×(List Af)×(List Ad)×(List Int)×Bool×Int×Int×Int×Int×Int×(List Int)×Int×Int)⊕((Int×Int×(List Af)×(List Ad)×(List Int)×Bool×Int×Int×Int×Int×Int×(List Int)×Int×Int)⊕(Ag×Am))):=
match s with
| (p217,p218,p219,p220,p221,p222,p223,p224,p225,p226,p227,p228,p229,p230,p231)=>
if (decide (p217<(r184.length:Int)))=true then
(El r184 p217).bind fun y324=>
(r184[p217.toNat]?).bind fun y326=>
if (!y326.Ij)=true then
Ws p217 p218 p219 p220 p221 p222 p223 p224 p225 p226 p227 p228 p229 p230 p231
else
(jU (Dp.mk (Ag.mk (Ak.mk p218 p219 p220) p221 p222 p223) (Aj.mk p224 p225 p226 p227 p228 p229 p230) p231) y326.Bb false).bind fun r329=>
if (r329.1==0)=true then
(JC r329.2.v.Aa (fun z474_0=>JD z474_0 y326)).bind fun r342=>
Te a1 p217 r329 r342
else
Te a1 p217 r329 r329.2.v.Aa
else
some (.inr (.inl (p218,p219,p220,p221,p222,p223,p224,p225,p226,p227,p228,p229,p230,p231)))
noncomputable def Amm (a0:Ag) (a1:Aj):Option (Ag×Am):=
(g82 a0.Ab a1.clock).bind fun r1=>
if (a1.stop==1)=true then
(jT (Ag.mk r1.1 a0.Aa a0.Ae a0.Ai)).bind fun r4=>
some (r4.1,r4.2)
else
(g66 r1.1.Ac).bind fun r6=>
(Ce (Lh a1 r6) (0,r1.1.clock,r1.1.next,r1.1.Ac,a0.Aa,a0.Ae,a0.Ai,a1.kind,a1.id,a1.ttl,a1.Fd,a1.clock,a1.Cp,a1.stop,0)).bind fun r182=>
(match r182 with
| .inl (p108,p109,p110,p111,p112,p113,p114,p115,p116,p117,p118,p119,p120,p121)=>
(qW p111).bind fun r184=>
(Ce (Jk a1 r184) (0,p108,p109,p110,p111,p112,p113,p114,p115,p116,p117,p118,p119,p120,p121)).bind fun r344=>
(match r344 with
| .inl (p278,p279,p280,p281,p282,p283,p284,p285,p286,p287,p288,p289,p290,p291)=>
some ((Ag.mk (Ak.mk p278 p279 p280) p281 p282 p283),(Am.mk 0 0))
| .inr q=>some q)
| .inr q=>some q)
noncomputable def fM (a0:Ag) (a1:Aj):Option (Ag×Am):=
(Amk a0).bind fun r1=>
(bI a1.kind 1 6).bind fun r3=>
if (!r3)=true then
(fN r1 16).bind fun r6=>
some (r6.1,r6.2)
else
if (bif r1.Ai then (a1.kind != 6) else false)=true then
(fN r1 14).bind fun r9=>
some (r9.1,r9.2)
else
if (a1.kind==1)=true then
(Aml r1 a1).bind fun r12=>
some (r12.1,r12.2)
else
if (a1.kind==2)=true then
(g80 r1.Ab a1.id a1.ttl).bind fun r15=>
(JB r1 r15.1 r15.2).bind fun r17=>
some (r17.1,r17.2)
else
if (a1.kind==3)=true then
(g75 r1.Ab a1.id).bind fun r20=>
(JB r1 r20.1 r20.2).bind fun r22=>
some (r22.1,r22.2)
else
if (a1.kind==4)=true then
(Amm r1 a1).bind fun r25=>
some (r25.1,r25.2)
else
some ((Ag.mk r1.Ab r1.Aa r1.Ae (a1.kind==5)),(Am.mk 0 0))
noncomputable def Wq (a0:List Aj) (s:(List Am)×Int×Int×Int×(List Af)×(List Ad)×(List Int)×Bool):Option (((List Am)×Int×Int×Int×(List Af)×(List Ad)×(List Int)×Bool)⊕((List Am)×Int×Int×(List Af)×(List Ad)×(List Int)×Bool)):=
match s with
| (p16,p17,p18,p19,p20,p21,p22,p23)=>
if (decide (p17<(a0.length:Int)))=true then
(El a0 p17).bind fun y46=>
(fM (Ag.mk (Ak.mk p18 p19 p20) p21 p22 p23) y46).bind fun r48=>
if (p16.length+([r48.2]:List Am).length)*16≤140737488355328 then
some (.inl ((p16++([r48.2]:List Am)),(IntKind.i64.wrap (p17+1)),r48.1.Ab.clock,r48.1.Ab.next,r48.1.Ab.Ac,r48.1.Aa,r48.1.Ae,r48.1.Ai))
else none
else
some (.inr (p16,p18,p19,p20,p21,p22,p23))
noncomputable def Amd (a0:List Aj):Option (Ag×(List Am)×Int):=
(g455 a0).bind fun r1=>
if (!r1)=true then
some ((Ag.mk (Ak.mk 0 0 ([]:List Af)) ([]:List Ad) ([]:List Int) false),[],2)
else
if (decide ((a0.length:Int)>120))=true then
some ((Ag.mk (Ak.mk 0 0 ([]:List Af)) ([]:List Ad) ([]:List Int) false),[],6)
else
(Amf a0 (fun z457_0=>xB z457_0)).bind fun r5=>
if (!r5)=true then
some ((Ag.mk (Ak.mk 0 0 ([]:List Af)) ([]:List Ad) ([]:List Int) false),[],1)
else
(g458).bind fun r8=>
(Ce (Wq a0) ([],0,r8.Ab.clock,r8.Ab.next,r8.Ab.Ac,r8.Aa,r8.Ae,r8.Ai)).bind fun r51=>
(match r51 with
| (p38,p39,p40,p41,p42,p43,p44)=>
some ((Ag.mk (Ak.mk p39 p40 p41) p42 p43 p44),p38,0))
noncomputable def g460 (a0:List Ad):Option Bool:=
some (decide ((a0.length:Int)≤4096))
noncomputable def Ame (a0:Ag):Option (Int×Int):=
(g20 a0.Ab).bind fun r1=>
(if ((!r1)==false)=true then g460 a0.Aa else some default).bind fun r3=>
(if ((bif (!r1) then true else (!r3))==false)=true then g87 a0.Ae else some default).bind fun r5=>
if (bif (bif (!r1) then true else (!r3)) then true else (!r5))=true then
some (0,1)
else
(g96 a0).bind fun r8=>
if r8.2=true then
some (r8.1,13)
else
some (0,0)
noncomputable def qV (a0:Ag) (a1:Aj):Option (Ag×Am×Int):=
(g48 a0).bind fun r1=>
(if ((!r1)==false)=true then xB a1 else some default).bind fun r3=>
if (bif (!r1) then true else (!r3))=true then
some ((Ag.mk (Ak.mk 0 0 ([]:List Af)) ([]:List Ad) ([]:List Int) false),(Am.mk 0 0),1)
else
(fM a0 a1).bind fun r6=>
some (r6.1,r6.2,0)
noncomputable def Wp (r12:(List Bd)×Int) (s:Int×(List UInt8)×(List Aw)):Option ((Int×(List UInt8)×(List Aw))⊕(((List UInt8)×(List Aw))⊕Bool)):=
match s with
| (p29,p30,p31)=>
if (decide (p29<(r12.1.length:Int)))=true then
(El r12.1 p29).bind fun y48=>
(r12.1[p29.toNat]?).bind fun y50=>
(qR (Ay.mk p30 p31) ([(Ar.mk y50.key y50.value false)]:List Ar)).bind fun r52=>
if (r52.2==9)=true then
some (.inr (.inr true))
else
if (r52.2 != 0)=true then
some (.inr (.inr false))
else
some (.inl ((IntKind.i64.wrap (p29+1)),r52.1.held,r52.1.Av))
else
some (.inr (.inl (p30,p31)))
noncomputable def Tc (r59:(List (List UInt8))×Int) (s:Int×Int):Option ((Int×Int)⊕(Int)):=
match s with
| (p66,p67)=>
if (decide (p67<(r59.1.length:Int)))=true then
(El r59.1 p67).bind fun y77=>
(r59.1[p67.toNat]?).bind fun y79=>
some (.inl ((IntKind.i64.wrap (p66+(IntKind.i64.wrap ((y79.length:Int)+6)))),(IntKind.i64.wrap (p67+1))))
else
some (.inr p66)
noncomputable def g433 (a0:List UInt8) (a1:List UInt8):Option Bool:=
Bs ((bif (decide ((a0.length:Int)>1048576)) then true else (decide ((a1.length:Int)>1048576)))) fun v1=>
if v1=true then
some true
else
(g51 a0).bind fun r4=>
(Amd r4).bind fun r6=>
(g51 a0).bind fun r8=>
(g50 r8).bind fun r10=>
(Alh r6.1).bind fun r12=>
(if ((bif (r6.2.2 != 0) then true else (r12.2 != 0))==false)=true then IP r6.1 r10.1 else some default).bind fun r14=>
Bs ((bif (bif (r6.2.2 != 0) then true else (r12.2 != 0)) then true else (!r14))) fun v16=>
if v16=true then
some false
else
(Ce (Wp r12) (0,([]:List UInt8),([]:List Aw))).bind fun r57=>
(match r57 with
| .inl (p45,p46)=>
(Ald (Ay.mk p45 p46)).bind fun r59=>
(Ce (Tc r59) (0,0)).bind fun r81=>
(match r81 with
| p75=>
(wU (Ay.mk p45 p46) p75 ([(0:UInt8),(9:UInt8),(1:UInt8),(2:UInt8),(3:UInt8)]:List UInt8)).bind fun r83=>
if (r83.2==9)=true then
some true
else
(Alf a1).bind fun r86=>
(IN r83.1 r86).bind fun r88=>
(AlH r88.1).bind fun r91=>
(Ali r91.1 r6.1.Ae).bind fun r93=>
(if ((bif (bif (bif (r83.2 != 0) then true else (r88.2 != 0)) then true else (r91.2 != 0)) then true else (r93.2 != 0))==false)=true then Alj r91.1 r12.1 else some default).bind fun r95=>
(if ((bif (bif (bif (bif (r83.2 != 0) then true else (r88.2 != 0)) then true else (r91.2 != 0)) then true else (r93.2 != 0)) then true else (!r95))==false)=true then IP r93.1 r6.1 else some default).bind fun r97=>
Bs ((bif (bif (bif (bif (bif (r83.2 != 0) then true else (r88.2 != 0)) then true else (r91.2 != 0)) then true else (r93.2 != 0)) then true else (!r95)) then true else (!r97))) fun v99=>
if v99=true then
some false
else
(Ame r93.1).bind fun r102=>
(qV r93.1 (Aj.mk 6 0 0 0 0 ([]:List Int) 0)).bind fun r104=>
(qV r104.1 (Aj.mk 4 0 0 0 9223372036854775807 ([]:List Int) 0)).bind fun r106=>
Bs ((bif (bif (bif (bif (bif (r102.1==0) then (r102.2==0) else false) then (r104.2.2==0) else false) then (r106.2.2==0) else false) then ((r106.1.Ae.length:Int)==0) else false) then ((r106.1.Ab.Ac.length:Int)==0) else false)) fun v108=>
some v108)
| .inr q=>some q)
end Go.Ev
