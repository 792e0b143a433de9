/- Functions with the answers of the program's, written by a program of ours. -/
import Derived.Test.YtdmclbbhhcpjfaaDoorQvG
import Derived.Lib.ItoaNum
set_option linter.all false
set_option maxHeartbeats 4000000
set_option linter.unusedVariables false
set_option maxRecDepth 100000
namespace Go.Ev
structure Ah where
  id:Int
  Bl:Int
  cap:Int
  Cs:Bool
  deriving Inhabited,DecidableEq
def Yb (x:Ah):Prop:=Xz x.id∧Xz x.Bl∧Xz x.cap∧Ya x.Cs
def Aj (x:Ah):List V:=[.int .i64 x.id,.int .i64 x.Bl,.int .i64 x.cap,.bool x.Cs]
structure Bn where
  clock:Int
  next:Int
  Ae:List Ah
  deriving Inhabited,DecidableEq
def Yc (x:Bn):Prop:=Xz x.clock∧Xz x.next∧(KK Yb) x.Ae
def Ay (x:Bn):List V:=[.int .i64 x.clock,.int .i64 x.next,.lst 4 (x.Ae.map Aj)]
structure An where
  Ap:Int
  Qd:Bool
  deriving Inhabited,DecidableEq
def Vh (x:An):Prop:=Xz x.Ap∧Ya x.Qd
def Az (x:An):List V:=[.int .i64 x.Ap,.bool x.Qd]
structure Aw where
  table:Bn
  Ab:List An
  Ac:List Int
  Fa:Bool
  deriving Inhabited,DecidableEq
def Hk (x:Aw):Prop:=Yc x.table∧(KK Vh) x.Ab∧(KK Xz) x.Ac∧Ya x.Fa
def Aa (x:Aw):List V:=[.int .i64 x.table.clock,.int .i64 x.table.next,.lst 4 (x.table.Ae.map Aj),.lst 2 (x.Ab.map Az),.lst 1 (x.Ac.map eI),.bool x.Fa]
noncomputable def KB (a0:List Ah) (a1:Int):Option Int:=
if (decide ((IntKind.i64.wrap (a1-(a0.length:Int)))<0))=true then
some (-1)
else
some (IntKind.i64.wrap (a1-(a0.length:Int)))
noncomputable def JQ (a0:Bn) (a1:Int):Option Int:=
(KB a0.Ae a1).bind fun r1=>
if (decide (r1<0))=true then
some (-1)
else
some r1
noncomputable def MV (a0:List An) (a1:Int):Option Int:=
if (decide ((IntKind.i64.wrap (a1-(a0.length:Int)))<0))=true then
some (-1)
else
some (IntKind.i64.wrap (a1-(a0.length:Int)))
noncomputable def MW (a0:List Int) (a1:Int):Option Int:=
if (decide ((IntKind.i64.wrap (a1-(a0.length:Int)))<0))=true then
some (-1)
else
some (IntKind.i64.wrap (a1-(a0.length:Int)))
noncomputable def JX (a0:Aw) (a1:Int):Option Int:=
(JQ a0.table a1).bind fun r1=>
if (decide (r1<0))=true then
some (-1)
else
(MV a0.Ab r1).bind fun r4=>
if (decide (r4<0))=true then
some (-1)
else
(MW a0.Ac r4).bind fun r7=>
if (decide (r7<0))=true then
some (-1)
else
some r7
noncomputable def EZ (a0:Ah):Option Ah:=
some a0
noncomputable def Oz (a0:List Ah) (s:(List Ah)×Int):Option (((List Ah)×Int)⊕((List Ah))):=
match s with
| (p12,p13)=>
if (decide (p13<(a0.length:Int)))=true then
(Dt a0 p13).bind fun y27=>
(EZ y27).bind fun r29=>
(Dt p12 p13).bind fun y31=>
(p12[p13.toNat]?).bind fun y33=>
some (.inl ((p12.set p13.toNat r29),(IntKind.i64.wrap (p13+1))))
else
some (.inr p12)
noncomputable def KC (a0:List Ah):Option (List Ah):=
if 0≤(a0.length:Int) then
if (a0.length:Int)*32≤140737488355328 then
(Cf (Oz a0) ((List.replicate (a0.length:Int).toNat (Ah.mk 0 0 0 false)),0)).bind fun r35=>
(match r35 with
| p25=>
some p25)
else none
else none
noncomputable def JS (a0:Bn):Option Bn:=
(KC a0.Ae).bind fun r1=>
some (Bn.mk a0.clock a0.next r1)
noncomputable def Ru (a0:List Int) (s:(List Int)×Int):Option (((List Int)×Int)⊕((List Int))):=
match s with
| (p10,p11)=>
if (decide (p11<(a0.length:Int)))=true then
(Dt a0 p11).bind fun y23=>
(Dt p10 p11).bind fun y25=>
(p10[p11.toNat]?).bind fun y27=>
some (.inl ((p10.set p11.toNat y23),(IntKind.i64.wrap (p11+1))))
else
some (.inr p10)
noncomputable def JW (a0:List Int):Option (List Int):=
if 0≤(a0.length:Int) then
if (a0.length:Int)*8≤140737488355328 then
(Cf (Ru a0) ((List.replicate (a0.length:Int).toNat 0),0)).bind fun r29=>
(match r29 with
| p21=>
some p21)
else none
else none
noncomputable def FC (a0:An):Option An:=
some a0
noncomputable def Pa (a0:List An) (s:(List An)×Int):Option (((List An)×Int)⊕((List An))):=
match s with
| (p12,p13)=>
if (decide (p13<(a0.length:Int)))=true then
(Dt a0 p13).bind fun y27=>
(FC y27).bind fun r29=>
(Dt p12 p13).bind fun y31=>
(p12[p13.toNat]?).bind fun y33=>
some (.inl ((p12.set p13.toNat r29),(IntKind.i64.wrap (p13+1))))
else
some (.inr p12)
noncomputable def KG (a0:List An):Option (List An):=
if 0≤(a0.length:Int) then
if (a0.length:Int)*16≤140737488355328 then
(Cf (Pa a0) ((List.replicate (a0.length:Int).toNat (An.mk 0 false)),0)).bind fun r35=>
(match r35 with
| p25=>
some p25)
else none
else none
noncomputable def GT (a0:Aw):Option Aw:=
(JS a0.table).bind fun r1=>
(KG a0.Ab).bind fun r3=>
(JW a0.Ac).bind fun r5=>
some (Aw.mk r1 r3 r5 a0.Fa)
noncomputable def sB (a0:Ah) (a1:Ah):Option Bool:=
if (a0.id != a1.id)=true then
some false
else
if (a0.Bl != a1.Bl)=true then
some false
else
if (a0.cap != a1.cap)=true then
some false
else
if (!(a0.Cs==a1.Cs))=true then
some false
else
some true
noncomputable def Rz (a0:List Ah) (a1:List Ah) (s:Int):Option ((Int)⊕(Unit⊕Bool)):=
match s with
| p10=>
if (decide (p10<(a0.length:Int)))=true then
(Dt a0 p10).bind fun y21=>
(Dt a1 p10).bind fun y23=>
(sB y21 y23).bind fun r25=>
if (!r25)=true then
some (.inr (.inr false))
else
some (.inl (IntKind.i64.wrap (p10+1)))
else
some (.inr (.inl ()))
noncomputable def IQ (a0:List Ah) (a1:List Ah):Option Bool:=
if ((a0.length:Int) != (a1.length:Int))=true then
some false
else
(Cf (Rz a0 a1) 0).bind fun r28=>
(match r28 with
| .inl ()=>
some true
| .inr q=>some q)
noncomputable def JU (a0:Bn) (a1:Bn):Option Bool:=
if (a0.clock != a1.clock)=true then
some false
else
if (a0.next != a1.next)=true then
some false
else
(IQ a0.Ae a1.Ae).bind fun r3=>
if (!r3)=true then
some false
else
some true
noncomputable def Rt (a0:List Int) (a1:List Int) (s:Int):Option ((Int)⊕(Unit⊕Bool)):=
match s with
| p8=>
if (decide (p8<(a0.length:Int)))=true then
(Dt a0 p8).bind fun y17=>
(Dt a1 p8).bind fun y19=>
if (y17 != y19)=true then
some (.inr (.inr false))
else
some (.inl (IntKind.i64.wrap (p8+1)))
else
some (.inr (.inl ()))
noncomputable def JV (a0:List Int) (a1:List Int):Option Bool:=
if ((a0.length:Int) != (a1.length:Int))=true then
some false
else
(Cf (Rt a0 a1) 0).bind fun r22=>
(match r22 with
| .inl ()=>
some true
| .inr q=>some q)
noncomputable def gK (a0:An) (a1:An):Option Bool:=
if (a0.Ap != a1.Ap)=true then
some false
else
if (!(a0.Qd==a1.Qd))=true then
some false
else
some true
noncomputable def Sc (a0:List An) (a1:List An) (s:Int):Option ((Int)⊕(Unit⊕Bool)):=
match s with
| p10=>
if (decide (p10<(a0.length:Int)))=true then
(Dt a0 p10).bind fun y21=>
(Dt a1 p10).bind fun y23=>
(gK y21 y23).bind fun r25=>
if (!r25)=true then
some (.inr (.inr false))
else
some (.inl (IntKind.i64.wrap (p10+1)))
else
some (.inr (.inl ()))
noncomputable def KJ (a0:List An) (a1:List An):Option Bool:=
if ((a0.length:Int) != (a1.length:Int))=true then
some false
else
(Cf (Sc a0 a1) 0).bind fun r28=>
(match r28 with
| .inl ()=>
some true
| .inr q=>some q)
noncomputable def KA (a0:Aw) (a1:Aw):Option Bool:=
(JU a0.table a1.table).bind fun r1=>
if (!r1)=true then
some false
else
(KJ a0.Ab a1.Ab).bind fun r4=>
if (!r4)=true then
some false
else
(JV a0.Ac a1.Ac).bind fun r7=>
if (!r7)=true then
some false
else
if (!(a0.Fa==a1.Fa))=true then
some false
else
some true
noncomputable def FK (a0:Int) (a1:Int) (a2:Int):Option Bool:=
some (bif (decide (a0≥a1)) then (decide (a0≤a2)) else false)
noncomputable def Rs (a0:Bn) (s:Int):Option ((Int)⊕(Unit⊕Bool)):=
match s with
| p16=>
if (decide (p16<(a0.Ae.length:Int)))=true then
(Dt a0.Ae p16).bind fun y29=>
(FK y29.id 1 (IntKind.i64.wrap (a0.next-1))).bind fun r31=>
(if (((!r31)==false)&&((decide (p16>0))==true))=true then Dt a0.Ae (IntKind.i64.wrap (p16-1)) else some default).bind fun y33=>
Bv ((bif (bif (bif (bif (!r31) then true else (bif (decide (p16>0)) then (decide (y33.id≥y29.id)) else false)) then true else (decide (y29.Bl<0))) then true else (decide (y29.Bl>y29.cap))) then true else (bif (!y29.Cs) then (decide (y29.Bl≤a0.clock)) else false))) fun v35=>
if v35=true then
some (.inr (.inr false))
else
some (.inl (IntKind.i64.wrap (p16+1)))
else
some (.inr (.inl ()))
noncomputable def JR (a0:Bn):Option Bool:=
(if ((decide (a0.clock<0))==false)=true then FK a0.next 1 1000000 else some default).bind fun r1=>
Bv ((bif (bif (decide (a0.clock<0)) then true else (!r1)) then true else (decide ((a0.Ae.length:Int)>40)))) fun v3=>
if v3=true then
some false
else
(Cf (Rs a0) 0).bind fun r38=>
(match r38 with
| .inl ()=>
some true
| .inr q=>some q)
noncomputable def Sa (a0:List Int) (a1:Int) (s:Int):Option ((Int)⊕(Unit⊕Bool)):=
match s with
| p13=>
if (decide (p13<(a0.length:Int)))=true then
(Dt a0 p13).bind fun y28=>
(FK y28 1 (IntKind.i64.wrap (a1-1))).bind fun r30=>
(if (((!r30)==false)&&((decide (p13>0))==true))=true then Dt a0 (IntKind.i64.wrap (p13-1)) else some default).bind fun y32=>
(if (((!r30)==false)&&((decide (p13>0))==true))=true then Dt a0 p13 else some default).bind fun y34=>
Bv ((bif (!r30) then true else (bif (decide (p13>0)) then (decide (y32≥y34)) else false))) fun v36=>
if v36=true then
some (.inr (.inr false))
else
some (.inl (IntKind.i64.wrap (p13+1)))
else
some (.inr (.inl ()))
noncomputable def KE (a0:List Int) (a1:Int):Option Bool:=
(Cf (Sa a0 a1) 0).bind fun r39=>
(match r39 with
| .inl ()=>
some true
| .inr q=>some q)
noncomputable def Wd (a0:Bn) (a1:Int) (s:Int):Option ((Int)⊕(Unit⊕Int)):=
match s with
| p5=>
if (decide (p5<(a0.Ae.length:Int)))=true then
(Dt a0.Ae p5).bind fun y12=>
if (y12.id==a1)=true then
some (.inr (.inr p5))
else
some (.inl (IntKind.i64.wrap (p5+1)))
else
some (.inr (.inl ()))
noncomputable def GW (a0:Bn) (a1:Int):Option Int:=
(Cf (Wd a0 a1) 0).bind fun r15=>
(match r15 with
| .inl ()=>
some (-1)
| .inr q=>some q)
noncomputable def Qo (a0:Aw) (a1:Int) (s:Int):Option ((Int)⊕(Unit⊕Int)):=
match s with
| p5=>
if (decide (p5<(a0.Ab.length:Int)))=true then
(Dt a0.Ab p5).bind fun y12=>
if (y12.Ap==a1)=true then
some (.inr (.inr p5))
else
some (.inl (IntKind.i64.wrap (p5+1)))
else
some (.inr (.inl ()))
noncomputable def sG (a0:Aw) (a1:Int):Option Int:=
(Cf (Qo a0 a1) 0).bind fun r15=>
(match r15 with
| .inl ()=>
some (-1)
| .inr q=>some q)
noncomputable def We (a0:Aw) (s:Int):Option ((Int)⊕(Unit⊕Int)):=
match s with
| p13=>
if (decide (p13<(a0.Ac.length:Int)))=true then
(Dt a0.Ac p13).bind fun y28=>
(GW a0.table y28).bind fun r30=>
(if ((decide (r30<0))==true)=true then Dt a0.Ac p13 else some default).bind fun y32=>
(if ((decide (r30<0))==true)=true then sG a0 y32 else some default).bind fun r34=>
if (bif (decide (r30<0)) then (decide (r34<0)) else false)=true then
(Dt a0.Ac p13).bind fun y37=>
some (.inr (.inr y37))
else
some (.inl (IntKind.i64.wrap (p13+1)))
else
some (.inr (.inl ()))
noncomputable def KF (a0:Aw):Option Int:=
(Cf (We a0) 0).bind fun r39=>
(match r39 with
| .inl ()=>
some 0
| .inr q=>some q)
noncomputable def Rv (a0:Aw) (s:Int):Option ((Int)⊕(Unit⊕Bool)):=
match s with
| p20=>
if (decide (p20<(a0.Ab.length:Int)))=true then
(Dt a0.Ab p20).bind fun y35=>
(FK y35.Ap 1 (IntKind.i64.wrap (a0.table.next-1))).bind fun r37=>
(if (((!r37)==false)&&((decide (p20>0))==true))=true then Dt a0.Ab (IntKind.i64.wrap (p20-1)) else some default).bind fun y39=>
(if ((bif (!r37) then true else (bif (decide (p20>0)) then (decide (y39.Ap≥y35.Ap)) else false))==false)=true then GW a0.table y35.Ap else some default).bind fun r41=>
Bv ((bif (bif (!r37) then true else (bif (decide (p20>0)) then (decide (y39.Ap≥y35.Ap)) else false)) then true else (decide (r41≥0)))) fun v43=>
if v43=true then
some (.inr (.inr false))
else
some (.inl (IntKind.i64.wrap (p20+1)))
else
some (.inr (.inl ()))
noncomputable def JY (a0:Aw):Option Bool:=
(JR a0.table).bind fun r1=>
(if ((bif (bif (!r1) then true else (decide ((a0.Ab.length:Int)>40))) then true else (decide ((a0.Ac.length:Int)>80)))==false)=true then KE a0.Ac a0.table.next else some default).bind fun r3=>
Bv ((bif (bif (bif (!r1) then true else (decide ((a0.Ab.length:Int)>40))) then true else (decide ((a0.Ac.length:Int)>80))) then true else (!r3))) fun v5=>
if v5=true then
some false
else
(Cf (Rv a0) 0).bind fun r46=>
(match r46 with
| .inl ()=>
(KF a0).bind fun r48=>
some (r48==0)
| .inr q=>some q)
noncomputable def Kw (rc480:Int→Option (List UInt8)) (a0:Int):Option (List UInt8):=
if (a0==(-9223372036854775808))=true then
Bv (([45,57,50,50,51,51,55,50,48,51,54,56,53,52,55,55,53,56,48,56]:List UInt8)) fun v2=>
some v2
else
if (decide (a0<0))=true then
(rc480 (IntKind.i64.wrap (0-a0))).bind fun r5=>
if ([45]:List UInt8).length+r5.length≤9223372036854775807 then
some (([45]:List UInt8)++r5)
else none
else
if (decide (a0<10))=true then
some ([b8 (IntKind.i64.wrap (48+a0))]:List UInt8)
else
(rc480 (IntKind.i64.wrap ((a0).tdiv 10))).bind fun r9=>
if r9.length+([b8 (IntKind.i64.wrap (48+((a0).tmod 10)))]:List UInt8).length≤9223372036854775807 then
some (r9++([b8 (IntKind.i64.wrap (48+((a0).tmod 10)))]:List UInt8))
else none
noncomputable def Np (n:Nat):Int→Option (List UInt8):=Nat.rec (fun _=>none) (fun _ rc=>Kw rc) n
noncomputable def Qq (p31:List UInt8) (p32:Int) (y57:Ah) (p60:List UInt8):Option (((List UInt8)×Int)⊕((List UInt8))):=
(Np Fs y57.id).bind fun r61=>
if p60.length+r61.length≤9223372036854775807 then
if (p60++r61).length+([32]:List UInt8).length≤9223372036854775807 then
(Np Fs y57.Bl).bind fun r65=>
if ((p60++r61)++([32]:List UInt8)).length+r65.length≤9223372036854775807 then
if (((p60++r61)++([32]:List UInt8))++r65).length+([32]:List UInt8).length≤9223372036854775807 then
(Np Fs y57.cap).bind fun r69=>
if ((((p60++r61)++([32]:List UInt8))++r65)++([32]:List UInt8)).length+r69.length≤9223372036854775807 then
if (((((p60++r61)++([32]:List UInt8))++r65)++([32]:List UInt8))++r69).length+([10]:List UInt8).length≤9223372036854775807 then
if p31.length+((((((p60++r61)++([32]:List UInt8))++r65)++([32]:List UInt8))++r69)++([10]:List UInt8)).length≤9223372036854775807 then
Bv (p31++((((((p60++r61)++([32]:List UInt8))++r65)++([32]:List UInt8))++r69)++([10]:List UInt8))) fun v74=>
some (.inl (v74,(IntKind.i64.wrap (p32+1))))
else none
else none
else none
else none
else none
else none
else none
noncomputable def Je (a0:Aw) (s:(List UInt8)×Int):Option (((List UInt8)×Int)⊕((List UInt8))):=
match s with
| (p31,p32)=>
if (decide (p32<(a0.table.Ae.length:Int)))=true then
(Dt a0.table.Ae p32).bind fun y57=>
if y57.Cs=true then
Qq p31 p32 y57 ([113,117,101,117,101,100,32]:List UInt8)
else
Qq p31 p32 y57 ([108,101,97,115,101,32]:List UInt8)
else
some (.inr p31)
noncomputable def Qr (a0:Aw) (p92:List UInt8) (p93:Int) (p113:List UInt8):Option (((List UInt8)×Int)⊕((List UInt8))):=
(Dt a0.Ab p93).bind fun y114=>
(Np Fs y114.Ap).bind fun r116=>
if p113.length+r116.length≤9223372036854775807 then
if (p113++r116).length+([10]:List UInt8).length≤9223372036854775807 then
if p92.length+((p113++r116)++([10]:List UInt8)).length≤9223372036854775807 then
some (.inl ((p92++((p113++r116)++([10]:List UInt8))),(IntKind.i64.wrap (p93+1))))
else none
else none
else none
noncomputable def Jf (a0:Aw) (s:(List UInt8)×Int):Option (((List UInt8)×Int)⊕((List UInt8))):=
match s with
| (p92,p93)=>
if (decide (p93<(a0.Ab.length:Int)))=true then
(Dt a0.Ab p93).bind fun y110=>
if y110.Qd=true then
Qr a0 p92 p93 ([117,110,100,111,32]:List UInt8)
else
Qr a0 p92 p93 ([98,101,103,117,110,32]:List UInt8)
else
some (.inr p92)
noncomputable def Jg (a0:Aw) (s:(List UInt8)×Int):Option (((List UInt8)×Int)⊕((List UInt8))):=
match s with
| (p135,p136)=>
if (decide (p136<(a0.Ac.length:Int)))=true then
(Dt a0.Ac p136).bind fun y148=>
(Np Fs y148).bind fun r150=>
if ([32]:List UInt8).length+r150.length≤9223372036854775807 then
if p135.length+(([32]:List UInt8)++r150).length≤9223372036854775807 then
some (.inl ((p135++(([32]:List UInt8)++r150)),(IntKind.i64.wrap (p136+1))))
else none
else none
else
some (.inr p135)
noncomputable def No (a0:Aw) (p2:List UInt8):Option (List UInt8):=
if ([118,97,117,108,116,32]:List UInt8).length+p2.length≤9223372036854775807 then
if (([118,97,117,108,116,32]:List UInt8)++p2).length+([32]:List UInt8).length≤9223372036854775807 then
(Np Fs a0.table.clock).bind fun r5=>
if ((([118,97,117,108,116,32]:List UInt8)++p2)++([32]:List UInt8)).length+r5.length≤9223372036854775807 then
if (((([118,97,117,108,116,32]:List UInt8)++p2)++([32]:List UInt8))++r5).length+([10]:List UInt8).length≤9223372036854775807 then
Bv ((((([118,97,117,108,116,32]:List UInt8)++p2)++([32]:List UInt8))++r5)++([10]:List UInt8)) fun v9=>
(Cf (Je a0) (v9,0)).bind fun r78=>
(match r78 with
| p55=>
(Cf (Jf a0) (p55,0)).bind fun r123=>
(match r123 with
| p108=>
if p108.length+([97,99,99,111,117,110,116,115]:List UInt8).length≤9223372036854775807 then
(Cf (Jg a0) ((p108++([97,99,99,111,117,110,116,115]:List UInt8)),0)).bind fun r154=>
(match r154 with
| p146=>
if p146.length+([10]:List UInt8).length≤9223372036854775807 then
some (p146++([10]:List UInt8))
else none)
else none))
else none
else none
else none
else none
noncomputable def sR (a0:Aw):Option (List UInt8):=
if a0.Fa=true then
No a0 ([115,101,97,108,101,100]:List UInt8)
else
No a0 ([111,112,101,110]:List UInt8)
noncomputable def sP (a0:Aw):Option ((List UInt8)×Int):=
(JY a0).bind fun r1=>
if (!r1)=true then
some (([]:List UInt8),1)
else
(sR a0).bind fun r4=>
some (r4,0)
noncomputable def GV (a0:Int) (a1:Int) (a2:Int):Option Bool:=
some (bif (decide (a1≤a0)) then (decide (a0≤a2)) else false)
noncomputable def KD (a0:Int):Option Bool:=
(GV a0 1 1000000).bind fun r1=>
some r1
noncomputable def Rx (a0:List Int) (a1:Int) (a2:Int) (s:Int):Option ((Int)⊕(Unit⊕Bool)):=
match s with
| p11=>
if (decide (p11<(a0.length:Int)))=true then
(Dt a0 p11).bind fun y24=>
(GV y24 a1 a2).bind fun r26=>
(if (((!r26)==false)&&((decide (p11>0))==true))=true then Dt a0 (IntKind.i64.wrap (p11-1)) else some default).bind fun y28=>
Bv ((bif (!r26) then true else (bif (decide (p11>0)) then (decide (y28≥y24)) else false))) fun v30=>
if v30=true then
some (.inr (.inr false))
else
some (.inl (IntKind.i64.wrap (p11+1)))
else
some (.inr (.inl ()))
noncomputable def FN (a0:List Int) (a1:Int) (a2:Int):Option Bool:=
(Cf (Rx a0 a1 a2) 0).bind fun r33=>
(match r33 with
| .inl ()=>
some true
| .inr q=>some q)
noncomputable def Ry (a0:Bn) (s:(List Int)×Int):Option (((List Int)×Int)⊕((List Int))):=
match s with
| (p5,p6)=>
if (decide (p6<(a0.Ae.length:Int)))=true then
(Dt a0.Ae p6).bind fun y15=>
if (p5.length+([y15.id]:List Int).length)*8≤140737488355328 then
some (.inl ((p5++([y15.id]:List Int)),(IntKind.i64.wrap (p6+1))))
else none
else
some (.inr p5)
noncomputable def IN (a0:Bn):Option (List Int):=
(Cf (Ry a0) ([],0)).bind fun r18=>
(match r18 with
| p13=>
some p13)
noncomputable def Ls (a0:List Ah) (is1:Ah→Option Bool) (s:Int):Option ((Int)⊕(Unit⊕Int)):=
match s with
| p7=>
if (decide (p7<(a0.length:Int)))=true then
(Dt a0 p7).bind fun y16=>
(is1 y16).bind fun r18=>
if r18=true then
some (.inr (.inr p7))
else
some (.inl (IntKind.i64.wrap (p7+1)))
else
some (.inr (.inl ()))
noncomputable def gI (a0:List Ah) (is1:Ah→Option Bool):Option Int:=
(Cf (Ls a0 is1) 0).bind fun r21=>
(match r21 with
| .inl ()=>
some (-1)
| .inr q=>some q)
noncomputable def FA (a0:List Ah) (is1:Ah→Option Bool):Option Bool:=
(gI a0 is1).bind fun r1=>
some (decide (r1≥0))
noncomputable def gH (a0:Ah) (is1:Ah→Option Bool):Option Bool:=
(is1 a0).bind fun r1=>
some (!r1)
noncomputable def IP (a0:List Ah) (is1:Ah→Option Bool):Option Bool:=
(FA a0 (fun z106_0=>gH z106_0 is1)).bind fun r1=>
some (!r1)
noncomputable def GU (a0:Ah) (a1:Bn):Option Bool:=
(GV a0.Bl 0 a0.cap).bind fun r1=>
Bv ((bif r1 then (bif a0.Cs then true else (decide (a0.Bl>a1.clock))) else false)) fun v3=>
some v3
noncomputable def JT (a0:Bn):Option Bool:=
(if ((decide (a0.clock≥0))==true)=true then KD a0.next else some default).bind fun r1=>
(if ((bif (bif (decide (a0.clock≥0)) then r1 else false) then (decide ((a0.Ae.length:Int)≤40)) else false)==true)=true then IN a0 else some default).bind fun r3=>
(if ((bif (bif (decide (a0.clock≥0)) then r1 else false) then (decide ((a0.Ae.length:Int)≤40)) else false)==true)=true then FN r3 1 (IntKind.i64.wrap (a0.next-1)) else some default).bind fun r5=>
(if ((bif (bif (bif (decide (a0.clock≥0)) then r1 else false) then (decide ((a0.Ae.length:Int)≤40)) else false) then r5 else false)==true)=true then IP a0.Ae (fun z62_0=>GU z62_0 a0) else some default).bind fun r7=>
Bv ((bif (bif (bif (bif (decide (a0.clock≥0)) then r1 else false) then (decide ((a0.Ae.length:Int)≤40)) else false) then r5 else false) then r7 else false)) fun v9=>
some v9
noncomputable def Sb (a0:List An) (s:(List Int)×Int):Option (((List Int)×Int)⊕((List Int))):=
match s with
| (p5,p6)=>
if (decide (p6<(a0.length:Int)))=true then
(Dt a0 p6).bind fun y15=>
if (p5.length+([y15.Ap]:List Int).length)*8≤140737488355328 then
some (.inl ((p5++([y15.Ap]:List Int)),(IntKind.i64.wrap (p6+1))))
else none
else
some (.inr p5)
noncomputable def GX (a0:List An):Option (List Int):=
(Cf (Sb a0) ([],0)).bind fun r18=>
(match r18 with
| p13=>
some p13)
def sN (a0:List Int) (a1:Int):Option (List Int):=if 0≤a1∧(a0.length:Int)+a1≤17592186044416 then some a0 else none
noncomputable def Qp (p7:Int) (p20:Int):Option ((Int×Int)⊕(Int)):=
some (.inl (p20,(IntKind.i64.wrap (p7+1))))
noncomputable def Hw (a0:List (List Int)) (s:Int×Int):Option ((Int×Int)⊕(Int)):=
match s with
| (p6,p7)=>
if (decide (p7<(a0.length:Int)))=true then
(Dt a0 p7).bind fun y22=>
if (decide ((IntKind.i64.wrap (p6+(y22.length:Int)))<0))=true then
none
else
Qp p7 (IntKind.i64.wrap (p6+(y22.length:Int)))
else
some (.inr p6)
noncomputable def Hx (a0:List (List Int)) (s:(List Int)×Int):Option (((List Int)×Int)⊕((List Int))):=
match s with
| (p33,p34)=>
if (decide (p34<(a0.length:Int)))=true then
(Dt a0 p34).bind fun y43=>
if (p33.length+y43.length)*8≤140737488355328 then
some (.inl ((p33++y43),(IntKind.i64.wrap (p34+1))))
else none
else
some (.inr p33)
noncomputable def sH (a0:List (List Int)):Option (List Int):=
(Cf (Hw a0) (0,0)).bind fun r25=>
(match r25 with
| p15=>
(sN ([]:List Int) p15).bind fun r27=>
(Cf (Hx a0) (r27,0)).bind fun r46=>
(match r46 with
| p41=>
some p41))
noncomputable def bE (a0:List Int) (is1:Int→Option Bool) (s:Int):Option ((Int)⊕(Unit⊕Int)):=
match s with
| p7=>
if (decide (p7<(a0.length:Int)))=true then
(Dt a0 p7).bind fun y16=>
(is1 y16).bind fun r18=>
if r18=true then
some (.inr (.inr p7))
else
some (.inl (IntKind.i64.wrap (p7+1)))
else
some (.inr (.inl ()))
noncomputable def sI (a0:List Int) (is1:Int→Option Bool):Option Int:=
(Cf (bE a0 is1) 0).bind fun r21=>
(match r21 with
| .inl ()=>
some (-1)
| .inr q=>some q)
noncomputable def gJ (a0:Int) (a1:List (Int×Bool)):Option Bool:=
some (!(Im a1 a0))
noncomputable def Pb (r5:(List Int)) (s:Int×(List (Int×Bool))):Option ((Int×(List (Int×Bool)))⊕((List (Int×Bool)))):=
match s with
| (p12,p13)=>
if (decide (p12<(r5.length:Int)))=true then
(Dt r5 p12).bind fun y23=>
(r5[p12.toNat]?).bind fun y25=>
some (.inl ((IntKind.i64.wrap (p12+1)),(Mf p13 y25 true)))
else
some (.inr p13)
noncomputable def KH (a0:Aw):Option (Int×Bool):=
(IN a0.table).bind fun r1=>
(GX a0.Ab).bind fun r3=>
(sH ([r1,r3]:List (List Int))).bind fun r5=>
(Cf (Pb r5) (0,([]:List (Int×Bool)))).bind fun r27=>
(match r27 with
| p21=>
(sI a0.Ac (fun z128_0=>gJ z128_0 p21)).bind fun r29=>
if (decide (r29<0))=true then
some (0,false)
else
(Dt a0.Ac r29).bind fun y32=>
some (y32,true))
noncomputable def sJ (a0:List Int) (is1:Int→Option Bool):Option Bool:=
(sI a0 is1).bind fun r1=>
some (decide (r1≥0))
noncomputable def sL (a0:Int) (is1:Int→Option Bool):Option Bool:=
(is1 a0).bind fun r1=>
some (!r1)
noncomputable def KI (a0:List Int) (is1:Int→Option Bool):Option Bool:=
(sJ a0 (fun z130_0=>sL z130_0 is1)).bind fun r1=>
some (!r1)
noncomputable def Qn (a0:List Ah) (a1:Int) (is2:Ah→Int→Option Int) (s:Int×Int):Option ((Int×Int)⊕(Int)):=
match s with
| (p9,p10)=>
if (decide (p9<p10))=true then
Bv (IntKind.i64.wrap (FW .u64 (IntKind.u64.wrap (IntKind.i64.wrap (p9+p10))) 1)) fun v23=>
(Dt a0 v23).bind fun y25=>
(is2 y25 a1).bind fun r27=>
if (decide (r27<0))=true then
some (.inl ((IntKind.i64.wrap (v23+1)),p10))
else
some (.inl (p9,v23))
else
some (.inr p9)
noncomputable def FB (a0:List Ah) (a1:Int) (is2:Ah→Int→Option Int):Option (Int×Bool):=
(Cf (Qn a0 a1 is2) (0,(a0.length:Int))).bind fun r30=>
(match r30 with
| p21=>
(if ((decide (p21<(a0.length:Int)))==true)=true then Dt a0 p21 else some default).bind fun y32=>
(if ((decide (p21<(a0.length:Int)))==true)=true then is2 y32 a1 else some default).bind fun r34=>
some (p21,(bif (decide (p21<(a0.length:Int))) then (r34==0) else false)))
noncomputable def sM (a0:Int):Option Bool:=
some (a0 != a0)
noncomputable def sE (a0:Int) (a1:Int):Option Int:=
(sM a0).bind fun r1=>
(sM a1).bind fun r3=>
if r1=true then
if r3=true then
some 0
else
some (-1)
else
if r3=true then
some 1
else
if (decide (a0<a1))=true then
some (-1)
else
if (decide (a0>a1))=true then
some 1
else
some 0
noncomputable def cQ (a0:Ah) (a1:Int):Option Int:=
(sE a0.id a1).bind fun r1=>
some r1
noncomputable def IS (a0:Bn) (a1:Int):Option (Int×Bool):=
(FB a0.Ae a1 (fun z114_0 z114_1=>cQ z114_0 z114_1)).bind fun r1=>
some (r1.1,r1.2)
noncomputable def IT (a0:Int) (a1:Aw):Option Bool:=
(IS a1.table a0).bind fun r1=>
some (!r1.2)
noncomputable def JZ (a0:Aw):Option Bool:=
(JT a0.table).bind fun r1=>
(if ((bif (!r1) then true else (decide ((a0.Ab.length:Int)>40)))==false)=true then GX a0.Ab else some default).bind fun r3=>
(if ((bif (!r1) then true else (decide ((a0.Ab.length:Int)>40)))==false)=true then FN r3 1 (IntKind.i64.wrap (a0.table.next-1)) else some default).bind fun r5=>
(if ((bif (bif (bif (!r1) then true else (decide ((a0.Ab.length:Int)>40))) then true else (!r5)) then true else (decide ((a0.Ac.length:Int)>80)))==false)=true then FN a0.Ac 1 (IntKind.i64.wrap (a0.table.next-1)) else some default).bind fun r7=>
Bv ((bif (bif (bif (bif (!r1) then true else (decide ((a0.Ab.length:Int)>40))) then true else (!r5)) then true else (decide ((a0.Ac.length:Int)>80))) then true else (!r7))) fun v9=>
if v9=true then
some false
else
(KH a0).bind fun r12=>
(if ((!r12.2)==true)=true then GX a0.Ab else some default).bind fun r14=>
(if ((!r12.2)==true)=true then KI r14 (fun z98_0=>IT z98_0 a0) else some default).bind fun r16=>
some (bif (!r12.2) then r16 else false)
noncomputable def To (a0:Bool) (a1:List UInt8) (a2:List UInt8):Option (List UInt8):=
if a0=true then
some a1
else
some a2
def Tp (a0:Int):Option (List UInt8):=if -9223372036854775808≤a0∧a0≤9223372036854775807 then some (Lib.itoa a0) else none
noncomputable def Hy (a0:Aw) (s:(List UInt8)×Int):Option (((List UInt8)×Int)⊕((List UInt8))):=
match s with
| (p32,p33)=>
if (decide (p33<(a0.table.Ae.length:Int)))=true then
(Dt a0.table.Ae p33).bind fun y59=>
(To y59.Cs ([113,117,101,117,101,100]:List UInt8) ([108,101,97,115,101]:List UInt8)).bind fun r61=>
if r61.length+([32]:List UInt8).length≤9223372036854775807 then
(Tp y59.id).bind fun r64=>
if (r61++([32]:List UInt8)).length+r64.length≤9223372036854775807 then
if ((r61++([32]:List UInt8))++r64).length+([32]:List UInt8).length≤9223372036854775807 then
(Tp y59.Bl).bind fun r68=>
if (((r61++([32]:List UInt8))++r64)++([32]:List UInt8)).length+r68.length≤9223372036854775807 then
if ((((r61++([32]:List UInt8))++r64)++([32]:List UInt8))++r68).length+([32]:List UInt8).length≤9223372036854775807 then
(Tp y59.cap).bind fun r72=>
if (((((r61++([32]:List UInt8))++r64)++([32]:List UInt8))++r68)++([32]:List UInt8)).length+r72.length≤9223372036854775807 then
if ((((((r61++([32]:List UInt8))++r64)++([32]:List UInt8))++r68)++([32]:List UInt8))++r72).length+([10]:List UInt8).length≤9223372036854775807 then
if p32.length+(((((((r61++([32]:List UInt8))++r64)++([32]:List UInt8))++r68)++([32]:List UInt8))++r72)++([10]:List UInt8)).length≤9223372036854775807 then
Bv (p32++(((((((r61++([32]:List UInt8))++r64)++([32]:List UInt8))++r68)++([32]:List UInt8))++r72)++([10]:List UInt8))) fun v77=>
some (.inl (v77,(IntKind.i64.wrap (p33+1))))
else none
else none
else none
else none
else none
else none
else none
else none
else
some (.inr p32)
noncomputable def Hz (a0:Aw) (s:(List UInt8)×Int):Option (((List UInt8)×Int)⊕((List UInt8))):=
match s with
| (p92,p93)=>
if (decide (p93<(a0.Ab.length:Int)))=true then
(Dt a0.Ab p93).bind fun y111=>
(To y111.Qd ([117,110,100,111]:List UInt8) ([98,101,103,117,110]:List UInt8)).bind fun r113=>
if r113.length+([32]:List UInt8).length≤9223372036854775807 then
(Tp y111.Ap).bind fun r116=>
if (r113++([32]:List UInt8)).length+r116.length≤9223372036854775807 then
if ((r113++([32]:List UInt8))++r116).length+([10]:List UInt8).length≤9223372036854775807 then
if p92.length+(((r113++([32]:List UInt8))++r116)++([10]:List UInt8)).length≤9223372036854775807 then
Bv (p92++(((r113++([32]:List UInt8))++r116)++([10]:List UInt8))) fun v121=>
some (.inl (v121,(IntKind.i64.wrap (p93+1))))
else none
else none
else none
else none
else
some (.inr p92)
noncomputable def Ia (a0:Aw) (s:(List UInt8)×Int):Option (((List UInt8)×Int)⊕((List UInt8))):=
match s with
| (p135,p136)=>
if (decide (p136<(a0.Ac.length:Int)))=true then
(Dt a0.Ac p136).bind fun y148=>
(Tp y148).bind fun r150=>
if ([32]:List UInt8).length+r150.length≤9223372036854775807 then
if p135.length+(([32]:List UInt8)++r150).length≤9223372036854775807 then
some (.inl ((p135++(([32]:List UInt8)++r150)),(IntKind.i64.wrap (p136+1))))
else none
else none
else
some (.inr p135)
noncomputable def sO (a0:Aw):Option (List UInt8):=
(To a0.Fa ([115,101,97,108,101,100]:List UInt8) ([111,112,101,110]:List UInt8)).bind fun r1=>
if ([118,97,117,108,116,32]:List UInt8).length+r1.length≤9223372036854775807 then
if (([118,97,117,108,116,32]:List UInt8)++r1).length+([32]:List UInt8).length≤9223372036854775807 then
(Tp a0.table.clock).bind fun r5=>
if ((([118,97,117,108,116,32]:List UInt8)++r1)++([32]:List UInt8)).length+r5.length≤9223372036854775807 then
if (((([118,97,117,108,116,32]:List UInt8)++r1)++([32]:List UInt8))++r5).length+([10]:List UInt8).length≤9223372036854775807 then
Bv ((((([118,97,117,108,116,32]:List UInt8)++r1)++([32]:List UInt8))++r5)++([10]:List UInt8)) fun v9=>
(Cf (Hy a0) (v9,0)).bind fun r79=>
(match r79 with
| p57=>
(Cf (Hz a0) (p57,0)).bind fun r123=>
(match r123 with
| p109=>
if p109.length+([97,99,99,111,117,110,116,115]:List UInt8).length≤9223372036854775807 then
(Cf (Ia a0) ((p109++([97,99,99,111,117,110,116,115]:List UInt8)),0)).bind fun r154=>
(match r154 with
| p146=>
if p146.length+([10]:List UInt8).length≤9223372036854775807 then
some (p146++([10]:List UInt8))
else none)
else none))
else none
else none
else none
else none
noncomputable def sQ (a0:Aw):Option ((List UInt8)×Int):=
(JZ a0).bind fun r1=>
if (!r1)=true then
some (([]:List UInt8),1)
else
(sO a0).bind fun r4=>
some (r4,0)
noncomputable def FI (a0:Aw):Option Bool:=
(JX a0 1048576).bind fun r1=>
if (decide (r1<0))=true then
some true
else
(GT a0).bind fun r4=>
(sP r4).bind fun r6=>
(GT a0).bind fun r8=>
(sQ r8).bind fun r10=>
if (bif (!(r10.1==r6.1)) then true else (r10.2 != r6.2))=true then
some false
else
(GT a0).bind fun r13=>
(KA r8 r13).bind fun r15=>
if (!r15)=true then
some false
else
some true
end Go.Ev
