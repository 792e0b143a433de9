/- Functions with the answers of the program's, written by a program of ours. -/
import Derived.Test.YtnkhjipmmomjoaaGreatQvG
set_option linter.all false
set_option maxHeartbeats 4000000
set_option linter.unusedVariables false
set_option maxRecDepth 100000
namespace Go.Ev
structure Aa where
  id:Int
  Bl:Int
  cap:Int
  Ck:Bool
  deriving Inhabited,DecidableEq
def DK (x:Aa):Prop:=Np x.id∧Np x.Bl∧Np x.cap∧bJ x.Ck
def Ac (x:Aa):List V:=[.int .i64 x.id,.int .i64 x.Bl,.int .i64 x.cap,.bool x.Ck]
structure Al where
  clock:Int
  next:Int
  Ae:List Aa
  deriving Inhabited,DecidableEq
def DL (x:Al):Prop:=Np x.clock∧Np x.next∧(okL DK) x.Ae
def Ba (x:Al):List V:=[.int .i64 x.clock,.int .i64 x.next,.lst 4 (x.Ae.map Ac)]
structure Ai where
  Av:Int
  Ol:Bool
  deriving Inhabited,DecidableEq
def rY (x:Ai):Prop:=Np x.Av∧bJ x.Ol
def Bw (x:Ai):List V:=[.int .i64 x.Av,.bool x.Ol]
structure Aj where
  Ad:Al
  Ab:List Ai
  Ah:List Int
  Am:Bool
  deriving Inhabited,DecidableEq
def DM (x:Aj):Prop:=DL x.Ad∧(okL rY) x.Ab∧(okL Np) x.Ah∧bJ x.Am
def Bc (x:Aj):List V:=[.int .i64 x.Ad.clock,.int .i64 x.Ad.next,.lst 4 (x.Ad.Ae.map Ac),.lst 2 (x.Ab.map Bw),.lst 1 (x.Ah.map eI),.bool x.Am]
structure Ak where
  kind:Int
  id:Int
  ttl:Int
  El:Int
  clock:Int
  Ce:List Int
  stop:Int
  deriving Inhabited,DecidableEq
def jY (x:Ak):Prop:=Np x.kind∧Np x.id∧Np x.ttl∧Np x.El∧Np x.clock∧(okL Np) x.Ce∧Np x.stop
def Aq (x:Ak):List V:=[.int .i64 x.kind,.int .i64 x.id,.int .i64 x.ttl,.int .i64 x.El,.int .i64 x.clock,.lst 1 (x.Ce.map eI),.int .i64 x.stop]
structure As where
  code_:Int
  id:Int
  deriving Inhabited,DecidableEq
def FP (x:As):Prop:=Np x.code_∧Np x.id
def Ap (x:As):List V:=[.int .i64 x.code_,.int .i64 x.id]
structure Cc where
  code_:List UInt8
  at_:Int
  Fm:Int
  deriving Inhabited,DecidableEq
def okDl00Src (x:Cc):Prop:=(okL bJ) x.code_∧Np x.at_∧Np x.Fm
def Bs (x:Cc):List V:=[.lst 1 (x.code_.map eU8),.int .i64 x.at_,.int .i64 x.Fm]
structure Da where
  v:Aj
  a:Ak
  Gu:Int
  deriving Inhabited,DecidableEq
def okDrunner (x:Da):Prop:=DM x.v∧jY x.a∧Np x.Gu
def jA (x:Da):List V:=[.int .i64 x.v.Ad.clock,.int .i64 x.v.Ad.next,.lst 4 (x.v.Ad.Ae.map Ac),.lst 2 (x.v.Ab.map Bw),.lst 1 (x.v.Ah.map eI),.bool x.v.Am,.int .i64 x.a.kind,.int .i64 x.a.id,.int .i64 x.a.ttl,.int .i64 x.a.El,.int .i64 x.a.clock,.lst 1 (x.a.Ce.map eI),.int .i64 x.a.stop,.int .i64 x.Gu]
noncomputable def rM (a0:Int) (a1:Int) (a2:Int):Option Bool:=
some (bif (decide (a1≤a0)) then (decide (a0≤a2)) else false)
noncomputable def g58 (a0:Int):Option Bool:=
(rM a0 1 1000000).bind fun r1=>
some r1
noncomputable def aF (a0:List Int) (a1:Int) (a2:Int) (s:Int):Option ((Int)⊕(Unit⊕Bool)):=
match s with
| p11=>
if (decide (p11<(a0.length:Int)))=true then
(Cq a0 p11).bind fun y24=>
(rM y24 a1 a2).bind fun r26=>
(if (((!r26)==false)&&((decide (p11>0))==true))=true then Cq a0 (IntKind.i64.wrap (p11-1)) else some default).bind fun y28=>
Bp ((bif (!r26) then true else (bif (decide (p11>0)) then (decide (y28≥y24)) else false))) fun v30=>
if v30=true then
some (.inr (.inr false))
else
some (.inl (IntKind.i64.wrap (p11+1)))
else
some (.inr (.inl ()))
noncomputable def g59 (a0:List Int) (a1:Int) (a2:Int):Option Bool:=
(Bz (aF a0 a1 a2) 0).bind fun r33=>
(match r33 with
| .inl ()=>
some true
| .inr q=>some q)
noncomputable def Nf (a0:Al) (s:(List Int)×Int):Option (((List Int)×Int)⊕((List Int))):=
match s with
| (p5,p6)=>
if (decide (p6<(a0.Ae.length:Int)))=true then
(Cq a0.Ae p6).bind fun y15=>
if (p5.length+([y15.id]:List Int).length)*8≤140737488355328 then
some (.inl ((p5++([y15.id]:List Int)),(IntKind.i64.wrap (p6+1))))
else none
else
some (.inr p5)
noncomputable def g60 (a0:Al):Option (List Int):=
(Bz (Nf a0) ([],0)).bind fun r18=>
(match r18 with
| p13=>
some p13)
noncomputable def Qp (a0:List Aa) (is1:Aa→Option Bool) (s:Int):Option ((Int)⊕(Unit⊕Int)):=
match s with
| p7=>
if (decide (p7<(a0.length:Int)))=true then
(Cq a0 p7).bind fun y16=>
(is1 y16).bind fun r18=>
if r18=true then
some (.inr (.inr p7))
else
some (.inl (IntKind.i64.wrap (p7+1)))
else
some (.inr (.inl ()))
noncomputable def BL (a0:List Aa) (is1:Aa→Option Bool):Option Int:=
(Bz (Qp a0 is1) 0).bind fun r21=>
(match r21 with
| .inl ()=>
some (-1)
| .inr q=>some q)
noncomputable def g105 (a0:List Aa) (is1:Aa→Option Bool):Option Bool:=
(BL a0 is1).bind fun r1=>
some (decide (r1≥0))
noncomputable def BK (a0:Aa) (is1:Aa→Option Bool):Option Bool:=
(is1 a0).bind fun r1=>
some (!r1)
noncomputable def g61 (a0:List Aa) (is1:Aa→Option Bool):Option Bool:=
(g105 a0 (fun z106_0=>BK z106_0 is1)).bind fun r1=>
some (!r1)
noncomputable def g62 (a0:Aa) (a1:Al):Option Bool:=
(rM a0.Bl 0 a0.cap).bind fun r1=>
Bp ((bif r1 then (bif a0.Ck then true else (decide (a0.Bl>a1.clock))) else false)) fun v3=>
some v3
noncomputable def g20 (a0:Al):Option Bool:=
(if ((decide (a0.clock≥0))==true)=true then g58 a0.next else some default).bind fun r1=>
(if ((bif (bif (decide (a0.clock≥0)) then r1 else false) then (decide ((a0.Ae.length:Int)≤40)) else false)==true)=true then g60 a0 else some default).bind fun r3=>
(if ((bif (bif (decide (a0.clock≥0)) then r1 else false) then (decide ((a0.Ae.length:Int)≤40)) else false)==true)=true then g59 r3 1 (IntKind.i64.wrap (a0.next-1)) else some default).bind fun r5=>
(if ((bif (bif (bif (decide (a0.clock≥0)) then r1 else false) then (decide ((a0.Ae.length:Int)≤40)) else false) then r5 else false)==true)=true then g61 a0.Ae (fun z62_0=>g62 z62_0 a0) else some default).bind fun r7=>
Bp ((bif (bif (bif (bif (decide (a0.clock≥0)) then r1 else false) then (decide ((a0.Ae.length:Int)≤40)) else false) then r5 else false) then r7 else false)) fun v9=>
some v9
noncomputable def aL (a0:List Ai) (s:(List Int)×Int):Option (((List Int)×Int)⊕((List Int))):=
match s with
| (p5,p6)=>
if (decide (p6<(a0.length:Int)))=true then
(Cq a0 p6).bind fun y15=>
if (p5.length+([y15.Av]:List Int).length)*8≤140737488355328 then
some (.inl ((p5++([y15.Av]:List Int)),(IntKind.i64.wrap (p6+1))))
else none
else
some (.inr p5)
noncomputable def g95 (a0:List Ai):Option (List Int):=
(Bz (aL a0) ([],0)).bind fun r18=>
(match r18 with
| p13=>
some p13)
def g144 (a0:List Int) (a1:Int):Option (List Int):=if 0≤a1∧(a0.length:Int)+a1≤17592186044416 then some a0 else none
noncomputable def Xy (p7:Int) (p20:Int):Option ((Int×Int)⊕(Int)):=
some (.inl (p20,(IntKind.i64.wrap (p7+1))))
noncomputable def Lm (a0:List (List Int)) (s:Int×Int):Option ((Int×Int)⊕(Int)):=
match s with
| (p6,p7)=>
if (decide (p7<(a0.length:Int)))=true then
(Cq a0 p7).bind fun y22=>
if (decide ((IntKind.i64.wrap (p6+(y22.length:Int)))<0))=true then
none
else
Xy p7 (IntKind.i64.wrap (p6+(y22.length:Int)))
else
some (.inr p6)
noncomputable def Ln (a0:List (List Int)) (s:(List Int)×Int):Option (((List Int)×Int)⊕((List Int))):=
match s with
| (p33,p34)=>
if (decide (p34<(a0.length:Int)))=true then
(Cq a0 p34).bind fun y43=>
if (p33.length+y43.length)*8≤140737488355328 then
some (.inl ((p33++y43),(IntKind.i64.wrap (p34+1))))
else none
else
some (.inr p33)
noncomputable def g126 (a0:List (List Int)):Option (List Int):=
(Bz (Lm a0) (0,0)).bind fun r25=>
(match r25 with
| p15=>
(g144 ([]:List Int) p15).bind fun r27=>
(Bz (Ln a0) (r27,0)).bind fun r46=>
(match r46 with
| p41=>
some p41))
noncomputable def oT (a0:List Int) (is1:Int→Option Bool) (s:Int):Option ((Int)⊕(Unit⊕Int)):=
match s with
| p7=>
if (decide (p7<(a0.length:Int)))=true then
(Cq a0 p7).bind fun y16=>
(is1 y16).bind fun r18=>
if r18=true then
some (.inr (.inr p7))
else
some (.inl (IntKind.i64.wrap (p7+1)))
else
some (.inr (.inl ()))
noncomputable def g127 (a0:List Int) (is1:Int→Option Bool):Option Int:=
(Bz (oT a0 is1) 0).bind fun r21=>
(match r21 with
| .inl ()=>
some (-1)
| .inr q=>some q)
noncomputable def BO (a0:Int) (a1:List (Int×Bool)):Option Bool:=
some (!(Mp a1 a0))
noncomputable def Vu (r5:(List Int)) (s:Int×(List (Int×Bool))):Option ((Int×(List (Int×Bool)))⊕((List (Int×Bool)))):=
match s with
| (p12,p13)=>
if (decide (p12<(r5.length:Int)))=true then
(Cq r5 p12).bind fun y23=>
(r5[p12.toNat]?).bind fun y25=>
some (.inl ((IntKind.i64.wrap (p12+1)),(Rv p13 y25 true)))
else
some (.inr p13)
noncomputable def g96 (a0:Aj):Option (Int×Bool):=
(g60 a0.Ad).bind fun r1=>
(g95 a0.Ab).bind fun r3=>
(g126 ([r1,r3]:List (List Int))).bind fun r5=>
(Bz (Vu r5) (0,([]:List (Int×Bool)))).bind fun r27=>
(match r27 with
| p21=>
(g127 a0.Ah (fun z128_0=>BO z128_0 p21)).bind fun r29=>
if (decide (r29<0))=true then
some (0,false)
else
(Cq a0.Ah r29).bind fun y32=>
some (y32,true))
noncomputable def g129 (a0:List Int) (is1:Int→Option Bool):Option Bool:=
(g127 a0 is1).bind fun r1=>
some (decide (r1≥0))
noncomputable def g130 (a0:Int) (is1:Int→Option Bool):Option Bool:=
(is1 a0).bind fun r1=>
some (!r1)
noncomputable def g97 (a0:List Int) (is1:Int→Option Bool):Option Bool:=
(g129 a0 (fun z130_0=>g130 z130_0 is1)).bind fun r1=>
some (!r1)
noncomputable def Xv (a0:List Aa) (a1:Int) (is2:Aa→Int→Option Int) (s:Int×Int):Option ((Int×Int)⊕(Int)):=
match s with
| (p9,p10)=>
if (decide (p9<p10))=true then
Bp (IntKind.i64.wrap (Nj .u64 (IntKind.u64.wrap (IntKind.i64.wrap (p9+p10))) 1)) fun v23=>
(Cq a0 v23).bind fun y25=>
(is2 y25 a1).bind fun r27=>
if (decide (r27<0))=true then
some (.inl ((IntKind.i64.wrap (v23+1)),p10))
else
some (.inl (p9,v23))
else
some (.inr p9)
noncomputable def g113 (a0:List Aa) (a1:Int) (is2:Aa→Int→Option Int):Option (Int×Bool):=
(Bz (Xv a0 a1 is2) (0,(a0.length:Int))).bind fun r30=>
(match r30 with
| p21=>
(if ((decide (p21<(a0.length:Int)))==true)=true then Cq a0 p21 else some default).bind fun y32=>
(if ((decide (p21<(a0.length:Int)))==true)=true then is2 y32 a1 else some default).bind fun r34=>
some (p21,(bif (decide (p21<(a0.length:Int))) then (r34==0) else false)))
noncomputable def jD (a0:Int):Option Bool:=
some (a0 != a0)
noncomputable def rD (a0:Int) (a1:Int):Option Int:=
(jD a0).bind fun r1=>
(jD a1).bind fun r3=>
if r1=true then
if r3=true then
some 0
else
some (-1)
else
if r3=true then
some 1
else
if (decide (a0<a1))=true then
some (-1)
else
if (decide (a0>a1))=true then
some 1
else
some 0
noncomputable def rE (a0:Aa) (a1:Int):Option Int:=
(rD a0.id a1).bind fun r1=>
some r1
noncomputable def FM (a0:Al) (a1:Int):Option (Int×Bool):=
(g113 a0.Ae a1 (fun z114_0 z114_1=>rE z114_0 z114_1)).bind fun r1=>
some (r1.1,r1.2)
noncomputable def g98 (a0:Int) (a1:Aj):Option Bool:=
(FM a1.Ad a0).bind fun r1=>
some (!r1.2)
noncomputable def g48 (a0:Aj):Option Bool:=
(g20 a0.Ad).bind fun r1=>
(if ((bif (!r1) then true else (decide ((a0.Ab.length:Int)>40)))==false)=true then g95 a0.Ab else some default).bind fun r3=>
(if ((bif (!r1) then true else (decide ((a0.Ab.length:Int)>40)))==false)=true then g59 r3 1 (IntKind.i64.wrap (a0.Ad.next-1)) else some default).bind fun r5=>
(if ((bif (bif (bif (!r1) then true else (decide ((a0.Ab.length:Int)>40))) then true else (!r5)) then true else (decide ((a0.Ah.length:Int)>80)))==false)=true then g59 a0.Ah 1 (IntKind.i64.wrap (a0.Ad.next-1)) else some default).bind fun r7=>
Bp ((bif (bif (bif (bif (!r1) then true else (decide ((a0.Ab.length:Int)>40))) then true else (!r5)) then true else (decide ((a0.Ah.length:Int)>80))) then true else (!r7))) fun v9=>
if v9=true then
some false
else
(g96 a0).bind fun r12=>
(if ((!r12.2)==true)=true then g95 a0.Ab else some default).bind fun r14=>
(if ((!r12.2)==true)=true then g97 r14 (fun z98_0=>g98 z98_0 a0) else some default).bind fun r16=>
some (bif (!r12.2) then r16 else false)
noncomputable def g83 (a0:List UInt8):Option Cc:=
some (Cc.mk a0 0 (((a0.length:Int)).tmod 1000))
noncomputable def lV (a0:Cc):Option (Int×Cc):=
if (decide ((IntKind.i64.wrap (a0.at_+1))≤(a0.code_.length:Int)))=true then
(Cq a0.code_ (IntKind.i64.wrap ((IntKind.i64.wrap (a0.at_+1))-1))).bind fun y2=>
Bp (((IntKind.i64.wrap ((IntKind.i64.wrap ((IntKind.i64.wrap (a0.Fm*31))+(IntKind.i64.wrap ((y2).toNat:Int))))+7))).tmod 2147483648) fun v4=>
(Cq a0.code_ (IntKind.i64.wrap ((IntKind.i64.wrap (a0.at_+1))-1))).bind fun y6=>
some (IntKind.i64.wrap ((y6).toNat:Int),(Cc.mk a0.code_ (IntKind.i64.wrap (a0.at_+1)) v4))
else
if (decide ((IntKind.i64.wrap (a0.at_+1))>3000))=true then
some (0,(Cc.mk a0.code_ (IntKind.i64.wrap (a0.at_+1)) a0.Fm))
else
Bp (((IntKind.i64.wrap ((IntKind.i64.wrap (a0.Fm*1103515245))+12345))).tmod 2147483648) fun v9=>
some (((IntKind.i64.wrap ((v9).tdiv 65536))).tmod 256,(Cc.mk a0.code_ (IntKind.i64.wrap (a0.at_+1)) v9))
noncomputable def Rm (a0:Cc) (a1:Int):Option (Int×Cc):=
if (decide (a1≤1))=true then
some (0,a0)
else
if (decide (a1≤256))=true then
(lV a0).bind fun r3=>
if a1≠0 then
some ((r3.1).tmod a1,r3.2)
else none
else
(lV a0).bind fun r6=>
(lV r6.2).bind fun r8=>
(lV r8.2).bind fun r10=>
if a1≠0 then
Bp (((IntKind.i64.wrap ((IntKind.i64.wrap ((IntKind.i64.wrap (r6.1*65536))+(IntKind.i64.wrap (r8.1*256))))+r10.1))).tmod a1) fun v13=>
some (v13,r10.2)
else none
noncomputable def g118 (a0:Cc) (a1:Int):Option Int:=
Bp (if a1<(IntKind.i64.wrap (1+(IntKind.i64.wrap (((a0.code_.length:Int)).tdiv 12)))) then a1 else (IntKind.i64.wrap (1+(IntKind.i64.wrap (((a0.code_.length:Int)).tdiv 12))))) fun v1=>
some v1
noncomputable def g119 (a0:Cc) (a1:Int):Option (Bool×Cc):=
(Rm a0 a1).bind fun r1=>
some ((r1.1==(IntKind.i64.wrap (a1-1))),r1.2)
noncomputable def Yc  (s:(List Int)×Int×(List UInt8)×Int×Int):Option (((List Int)×Int×(List UInt8)×Int×Int)⊕((List Int)×(List UInt8)×Int×Int)):=
match s with
| (p7,p8,p9,p10,p11)=>
if (decide (p8>0))=true then
(Rm (Cc.mk p9 p10 p11) 5).bind fun r26=>
if (p7.length+([(r26.1).tmod 3]:List Int).length)*8≤140737488355328 then
some (.inl ((p7++([(r26.1).tmod 3]:List Int)),(IntKind.i64.wrap (p8-1)),r26.2.code_,r26.2.at_,r26.2.Fm))
else none
else
some (.inr (p7,p9,p10,p11))
noncomputable def BR (a0:Cc):Option ((List Int)×Cc):=
(Rm a0 4).bind fun r1=>
(Bz (Yc) (([]:List Int),r1.1,r1.2.code_,r1.2.at_,r1.2.Fm)).bind fun r29=>
(match r29 with
| (p21,p22,p23,p24)=>
some (p21,(Cc.mk p22 p23 p24)))
noncomputable def Xz (p32:Int) (p33:Int) (p34:Int) (p35:Int) (p36:Int) (p37:List Int) (p46:Int) (p47:List UInt8) (p48:Int) (p49:Int):Option (Ak×Cc):=
some ((Ak.mk p32 p33 p34 p35 p36 p37 p46),(Cc.mk p47 p48 p49))
noncomputable def Lp (p32:Int) (p33:Int) (p34:Int) (p35:Int) (p36:Int) (p37:List Int) (p38:List UInt8) (p39:Int) (p40:Int):Option (Ak×Cc):=
(g119 (Cc.mk p38 p39 p40) 7).bind fun r41=>
if r41.1=true then
(Rm r41.2 2).bind fun r52=>
Xz p32 p33 p34 p35 p36 p37 (IntKind.i64.wrap (1+r52.1)) r52.2.code_ r52.2.at_ r52.2.Fm
else
Xz p32 p33 p34 p35 p36 p37 0 r41.2.code_ r41.2.at_ r41.2.Fm
noncomputable def Qu (r1:Int×Cc) (r3:(List Int)×Cc) (r5:Int×Cc) (r7:Int×Cc) (p65:Bool):Option (Ak×Cc):=
if p65=true then
(Rm r7.2 60).bind fun r67=>
(BR r67.2).bind fun r69=>
Lp 4 0 0 0 r67.1 r69.1 r69.2.code_ r69.2.at_ r69.2.Fm
else
if (r7.1==5)=true then
(Rm r7.2 4).bind fun r72=>
(Cq ([5,6,6,6]:List Int) r72.1).bind fun y74=>
(([5,6,6,6]:List Int)[r72.1.toNat]?).bind fun y76=>
Lp y76 0 0 0 0 ([]:List Int) r72.2.code_ r72.2.at_ r72.2.Fm
else
Lp 1 0 (IntKind.i64.wrap (1+r1.1)) (IntKind.i64.wrap ((IntKind.i64.wrap (1+r1.1))+r5.1)) 0 r3.1 r7.2.code_ r7.2.at_ r7.2.Fm
noncomputable def g135 (a0:Cc):Option (Ak×Cc):=
(Rm a0 9).bind fun r1=>
(BR r1.2).bind fun r3=>
(Rm r3.2 9).bind fun r5=>
(Rm r5.2 10).bind fun r7=>
if (r7.1==0)=true then
(Rm r7.2 9).bind fun r56=>
(Rm r56.2 12).bind fun r58=>
Lp 2 (IntKind.i64.wrap (1+r56.1)) (IntKind.i64.wrap (1+r58.1)) 0 0 ([]:List Int) r58.2.code_ r58.2.at_ r58.2.Fm
else
if (r7.1==1)=true then
(Rm r7.2 9).bind fun r61=>
Lp 3 (IntKind.i64.wrap (1+r61.1)) 0 0 0 ([]:List Int) r61.2.code_ r61.2.at_ r61.2.Fm
else
if (r7.1==2)=true then
Qu r1 r3 r5 r7 (r7.1==2)
else
if (r7.1==3)=true then
Qu r1 r3 r5 r7 (r7.1==3)
else
Qu r1 r3 r5 r7 (r7.1==4)
noncomputable def Xt (p16:Int) (p45:List Ak) (p46:List UInt8) (p47:Int) (p48:Int):Option (((List Ak)×Int×(List UInt8)×Int×Int)⊕((List Ak)×(List UInt8)×Int×Int)):=
some (.inl (p45,(IntKind.i64.wrap (p16-1)),p46,p47,p48))
noncomputable def Xu  (s:(List Ak)×Int×(List UInt8)×Int×Int):Option (((List Ak)×Int×(List UInt8)×Int×Int)⊕((List Ak)×(List UInt8)×Int×Int)):=
match s with
| (p15,p16,p17,p18,p19)=>
if (decide (p16>0))=true then
(g135 (Cc.mk p17 p18 p19)).bind fun r50=>
if (p15.length+([r50.1]:List Ak).length)*72≤140737488355328 then
if (bif (r50.1.stop != 0) then true else (r50.1.kind==5))=true then
if ((p15++([r50.1]:List Ak)).length+([(Ak.mk 6 0 0 0 0 ([]:List Int) 0)]:List Ak).length)*72≤140737488355328 then
Xt p16 ((p15++([r50.1]:List Ak))++([(Ak.mk 6 0 0 0 0 ([]:List Int) 0)]:List Ak)) r50.2.code_ r50.2.at_ r50.2.Fm
else none
else
Xt p16 (p15++([r50.1]:List Ak)) r50.2.code_ r50.2.at_ r50.2.Fm
else none
else
some (.inr (p15,p17,p18,p19))
noncomputable def g103 (a0:Cc):Option ((List Ak)×Cc):=
(g118 a0 16).bind fun r1=>
(Rm a0 (IntKind.i64.wrap (r1+3))).bind fun r3=>
(Bz (Xu) (([]:List Ak),r3.1,r3.2.code_,r3.2.at_,r3.2.Fm)).bind fun r55=>
(match r55 with
| (p35,p36,p37,p38)=>
(cK p35 0 (if 120<(p35.length:Int) then 120 else (p35.length:Int))).bind fun s57=>
some (s57,(Cc.mk p36 p37 p38)))
noncomputable def g51 (a0:List UInt8):Option (List Ak):=
(g83 a0).bind fun r1=>
(g103 r1).bind fun r3=>
some r3.1
noncomputable def aC (a0:Al) (a1:Al) (s:Int):Option ((Int)⊕(Unit⊕Bool)):=
match s with
| p12=>
if (decide (p12<(a0.Ae.length:Int)))=true then
(Cq a0.Ae p12).bind fun y23=>
(Cq a1.Ae p12).bind fun y25=>
Bp ((!((y23.id==y25.id)&&((y23.Bl==y25.Bl)&&((y23.cap==y25.cap)&&((y23.Ck==y25.Ck)&&true)))))) fun v27=>
if v27=true then
some (.inr (.inr false))
else
some (.inl (IntKind.i64.wrap (p12+1)))
else
some (.inr (.inl ()))
noncomputable def g41 (a0:Al) (a1:Al):Option Bool:=
Bp ((bif (bif (a0.clock != a1.clock) then true else (a0.next != a1.next)) then true else ((a0.Ae.length:Int) != (a1.Ae.length:Int)))) fun v1=>
if v1=true then
some false
else
(Bz (aC a0 a1) 0).bind fun r30=>
(match r30 with
| .inl ()=>
some true
| .inr q=>some q)
noncomputable def aE (a0:List Int) (a1:List Int) (s:Int):Option ((Int)⊕(Unit⊕Bool)):=
match s with
| p8=>
if (decide (p8<(a0.length:Int)))=true then
(Cq a0 p8).bind fun y17=>
(Cq a1 p8).bind fun y19=>
if (y17 != y19)=true then
some (.inr (.inr false))
else
some (.inl (IntKind.i64.wrap (p8+1)))
else
some (.inr (.inl ()))
noncomputable def g52 (a0:List Int) (a1:List Int):Option Bool:=
if ((a0.length:Int) != (a1.length:Int))=true then
some false
else
(Bz (aE a0 a1) 0).bind fun r22=>
(match r22 with
| .inl ()=>
some true
| .inr q=>some q)
noncomputable def Uc (a0:Aj) (a1:Aj) (s:Int):Option ((Int)⊕(Unit⊕Bool)):=
match s with
| p14=>
if (decide (p14<(a0.Ab.length:Int)))=true then
(Cq a0.Ab p14).bind fun y23=>
(Cq a1.Ab p14).bind fun y25=>
if (!((y23.Av==y25.Av)&&((y23.Ol==y25.Ol)&&true)))=true then
some (.inr (.inr false))
else
some (.inl (IntKind.i64.wrap (p14+1)))
else
some (.inr (.inl ()))
noncomputable def jE (a0:Aj) (a1:Aj):Option Bool:=
(g41 a0.Ad a1.Ad).bind fun r1=>
(if ((bif (bif (!r1) then true else (!(a0.Am==a1.Am))) then true else ((a0.Ab.length:Int) != (a1.Ab.length:Int)))==false)=true then g52 a0.Ah a1.Ah else some default).bind fun r3=>
Bp ((bif (bif (bif (!r1) then true else (!(a0.Am==a1.Am))) then true else ((a0.Ab.length:Int) != (a1.Ab.length:Int))) then true else (!r3))) fun v5=>
if v5=true then
some false
else
(Bz (Uc a0 a1) 0).bind fun r28=>
(match r28 with
| .inl ()=>
some true
| .inr q=>some q)
noncomputable def g455 (a0:List Ak):Option Bool:=
some (decide ((a0.length:Int)≤4096))
noncomputable def oY (a0:List Ak) (is1:Ak→Option Bool) (s:Int):Option ((Int)⊕(Unit⊕Int)):=
match s with
| p7=>
if (decide (p7<(a0.length:Int)))=true then
(Cq a0 p7).bind fun y16=>
(is1 y16).bind fun r18=>
if r18=true then
some (.inr (.inr p7))
else
some (.inl (IntKind.i64.wrap (p7+1)))
else
some (.inr (.inl ()))
noncomputable def g468 (a0:List Ak) (is1:Ak→Option Bool):Option Int:=
(Bz (oY a0 is1) 0).bind fun r21=>
(match r21 with
| .inl ()=>
some (-1)
| .inr q=>some q)
noncomputable def g461 (a0:List Ak) (is1:Ak→Option Bool):Option Bool:=
(g468 a0 is1).bind fun r1=>
some (decide (r1≥0))
noncomputable def g462 (a0:Ak) (is1:Ak→Option Bool):Option Bool:=
(is1 a0).bind fun r1=>
some (!r1)
noncomputable def g456 (a0:List Ak) (is1:Ak→Option Bool):Option Bool:=
(g461 a0 (fun z462_0=>g462 z462_0 is1)).bind fun r1=>
some (!r1)
noncomputable def g87 (a0:List Int):Option Bool:=
some (decide ((a0.length:Int)≤4096))
noncomputable def g88 (a0:Int):Option Bool:=
(rM a0 0 2).bind fun r1=>
some r1
noncomputable def mJ (a0:Ak):Option Bool:=
(g87 a0.Ce).bind fun r1=>
(if (r1==true)=true then g97 a0.Ce (fun z88_0=>g88 z88_0) else some default).bind fun r3=>
(if ((bif r1 then r3 else false)==true)=true then rM a0.stop 0 2 else some default).bind fun r5=>
some (bif (bif r1 then r3 else false) then r5 else false)
noncomputable def g458  : Option Aj:=
some (Aj.mk (Al.mk 0 1 ([]:List Aa)) ([]:List Ai) ([]:List Int) false)
def g66 (a0:List Aa):Option (List Aa):=if ([]:List Aa).length+a0.length≤4398046511104 then some a0 else none
noncomputable def fI (a0:Al):Option Al:=
(g66 a0.Ae).bind fun r1=>
some (Al.mk a0.clock a0.next r1)
noncomputable def g75 (a0:Al) (a1:Int):Option (Al×Int):=
(FM a0 a1).bind fun r1=>
if (!r1.2)=true then
some ((Al.mk 0 0 ([]:List Aa)),5)
else
(fI a0).bind fun r4=>
(Cq r4.Ae r1.1).bind fun y6=>
(r4.Ae[r1.1.toNat]?).bind fun y8=>
some ((Al.mk r4.clock r4.next (r4.Ae.set r1.1.toNat (Aa.mk y8.id y8.Bl y8.cap true))),0)
noncomputable def g54 (a0:Int) (a1:Int):Option Int:=
if (decide (a0>(IntKind.i64.wrap (9223372036854775807-a1))))=true then
some 9223372036854775807
else
some (IntKind.i64.wrap (a0+a1))
noncomputable def g80 (a0:Al) (a1:Int) (a2:Int):Option (Al×Int):=
(FM a0 a1).bind fun r1=>
if (decide (a2<1))=true then
some ((Al.mk 0 0 ([]:List Aa)),4)
else
if (!r1.2)=true then
some ((Al.mk 0 0 ([]:List Aa)),5)
else
(Cq a0.Ae r1.1).bind fun y5=>
if y5.Ck=true then
some ((Al.mk 0 0 ([]:List Aa)),13)
else
(fI a0).bind fun r8=>
(Cq r8.Ae r1.1).bind fun y10=>
(r8.Ae[r1.1.toNat]?).bind fun y12=>
(g54 a0.clock a2).bind fun r14=>
Bp (r8.Ae.set r1.1.toNat (Aa.mk y12.id (if y12.cap<r14 then y12.cap else r14) y12.cap y12.Ck)) fun v16=>
some ((Al.mk r8.clock r8.next v16),0)
def lQ (a0:List Int):Option (List Int):=if ([]:List Int).length+a0.length≤17592186044416 then some a0 else none
def mK (a0:List Ai):Option (List Ai):=if ([]:List Ai).length+a0.length≤8796093022208 then some a0 else none
noncomputable def g463 (a0:Aj):Option Aj:=
(fI a0.Ad).bind fun r1=>
(mK a0.Ab).bind fun r3=>
(lQ a0.Ah).bind fun r5=>
some (Aj.mk r1 r3 r5 a0.Am)
noncomputable def cO (a0:Aj) (a1:Int):Option (Aj×As):=
some (a0,(As.mk a1 0))
noncomputable def g71 (a0:Al) (a1:Int) (a2:Int):Option (Al×Int×Int):=
if (bif (decide (a1<1)) then true else (decide (a2<a1)))=true then
some ((Al.mk 0 0 ([]:List Aa)),0,4)
else
if (a0.clock==9223372036854775807)=true then
some ((Al.mk 0 0 ([]:List Aa)),0,11)
else
Bp ((bif ((a0.Ae.length:Int)==40) then true else (a0.next==1000000))) fun v3=>
if v3=true then
some ((Al.mk 0 0 ([]:List Aa)),0,9)
else
(fI a0).bind fun r6=>
(g54 a0.clock a1).bind fun r8=>
(g54 a0.clock a2).bind fun r10=>
if (r6.Ae.length+([(Aa.mk a0.next r8 r10 false)]:List Aa).length)*32≤140737488355328 then
some ((Al.mk r6.clock (IntKind.i64.wrap (r6.next+1)) (r6.Ae++([(Aa.mk a0.next r8 r10 false)]:List Aa))),a0.next,0)
else none
noncomputable def Rb (a0:Aj) (s:Int×(List Ai)):Option ((Int×(List Ai))⊕((List Ai))):=
match s with
| (p6,p7)=>
if (decide (p6<(a0.Ab.length:Int)))=true then
(Cq p7 p6).bind fun y17=>
(p7[p6.toNat]?).bind fun y19=>
some (.inl ((IntKind.i64.wrap (p6+1)),(p7.set p6.toNat (Ai.mk y19.Av true))))
else
some (.inr p7)
noncomputable def fR (a0:Aj):Option (Aj×As):=
(Bz (Rb a0) (0,a0.Ab)).bind fun r21=>
(match r21 with
| p15=>
some ((Aj.mk a0.Ad p15 a0.Ah true),(As.mk 15 0)))
noncomputable def g140 (a0:Int) (a1:Int):Option Bool:=
(jD a0).bind fun r1=>
(if (r1==true)=true then jD a1 else some default).bind fun r3=>
Bp ((bif (bif r1 then (!r3) else false) then true else (decide (a0<a1)))) fun v5=>
some v5
noncomputable def BQ (a0:Int):Option Bool:=
some (a0 != a0)
noncomputable def Xw (a0:List Int) (a1:Int) (s:Int×Int):Option ((Int×Int)⊕(Int)):=
match s with
| (p9,p10)=>
if (decide (p9<p10))=true then
Bp (IntKind.i64.wrap (Nj .u64 (IntKind.u64.wrap (IntKind.i64.wrap (p9+p10))) 1)) fun v23=>
(Cq a0 v23).bind fun y25=>
(g140 y25 a1).bind fun r27=>
if r27=true then
some (.inl ((IntKind.i64.wrap (v23+1)),p10))
else
some (.inl (p9,v23))
else
some (.inr p9)
noncomputable def g121 (a0:List Int) (a1:Int):Option (Int×Bool):=
(Bz (Xw a0 a1) (0,(a0.length:Int))).bind fun r30=>
(match r30 with
| p21=>
(if ((decide (p21<(a0.length:Int)))==true)=true then Cq a0 p21 else some default).bind fun y32=>
(if (((decide (p21<(a0.length:Int)))==true)&&((y32==a1)==false))=true then Cq a0 p21 else some default).bind fun y34=>
(if (((decide (p21<(a0.length:Int)))==true)&&((y32==a1)==false))=true then BQ y34 else some default).bind fun r36=>
(if ((((decide (p21<(a0.length:Int)))==true)&&((y32==a1)==false))&&(r36==true))=true then BQ a1 else some default).bind fun r38=>
Bp ((bif (decide (p21<(a0.length:Int))) then (bif (y32==a1) then true else (bif r36 then r38 else false)) else false)) fun v40=>
some (p21,v40))
def g122 (a0:List Int) (a1:Int) (a2:List Int):Option ((List Int)×(List Int)):=if (0≤a1∧a1≤(a0.length:Int))∧0<a2.length∧a0.length+a2.length≤17592186044416 then some (a0.take a1.toNat++a2++a0.drop a1.toNat,a2) else none
def g123 (a0:List Int) (a1:Int) (a2:Int):Option (List Int):=if (0≤a1∧a1≤a2∧a2≤(a0.length:Int))∧a0.length≤17592186044416 then some (a0.take a1.toNat++a0.drop a2.toNat) else none
noncomputable def Vt (a3:Int) (p13:List Int):Option ((List Int)×Int):=
if (a3==2)=true then
some (p13,15)
else
some (p13,0)
noncomputable def g89 (a0:List Int) (a1:Int) (a2:Bool) (a3:Int):Option ((List Int)×Int):=
(lQ a0).bind fun r1=>
if (a3==1)=true then
some (r1,13)
else
(g121 r1 a1).bind fun r4=>
if (bif a2 then (!r4.2) else false)=true then
(g122 r1 r4.1 ([a1]:List Int)).bind fun r17=>
if r17.2.length=([a1]:List Int).length then
Vt a3 r17.1
else none
else
if (bif (!a2) then r4.2 else false)=true then
(g123 r1 r4.1 (IntKind.i64.wrap (r4.1+1))).bind fun r21=>
Vt a3 r21
else
Vt a3 r1
noncomputable def Uf (a0:Da) (a1:Int) (a2:Bool) (p4:Int):Option (Int×Da):=
(g89 a0.v.Ah a1 a2 p4).bind fun r5=>
some (r5.2,(Da.mk (Aj.mk a0.v.Ad a0.v.Ab r5.1 a0.v.Am) a0.a (IntKind.i64.wrap (a0.Gu+1))))
noncomputable def fS (a0:Da) (a1:Int) (a2:Bool):Option (Int×Da):=
if (decide (a0.Gu<(a0.a.Ce.length:Int)))=true then
(Cq a0.a.Ce a0.Gu).bind fun y9=>
Uf a0 a1 a2 y9
else
Uf a0 a1 a2 0
noncomputable def Kf (a0:Aj) (a1:Ak) (r1:Al×Int×Int) (p4:Int):Option (Aj×As):=
if (p4 != 0)=true then
(cO a0 p4).bind fun r6=>
some (r6.1,r6.2)
else
if (a0.Ab.length+([(Ai.mk r1.2.1 false)]:List Ai).length)*16≤140737488355328 then
if (a1.stop==1)=true then
(fR (Aj.mk (Al.mk a0.Ad.clock (IntKind.i64.wrap (a0.Ad.next+1)) a0.Ad.Ae) (a0.Ab++([(Ai.mk r1.2.1 false)]:List Ai)) a0.Ah a0.Am)).bind fun r10=>
some (r10.1,r10.2)
else
(fS (Da.mk (Aj.mk (Al.mk a0.Ad.clock (IntKind.i64.wrap (a0.Ad.next+1)) a0.Ad.Ae) (a0.Ab++([(Ai.mk r1.2.1 false)]:List Ai)) a0.Ah a0.Am) a1 0) r1.2.1 true).bind fun r12=>
if (a1.stop==2)=true then
(fR r12.2.v).bind fun r15=>
some (r15.1,r15.2)
else
if (r12.1 != 0)=true then
(Cq r12.2.v.Ab (IntKind.i64.wrap ((r12.2.v.Ab.length:Int)-1))).bind fun y18=>
(r12.2.v.Ab[(IntKind.i64.wrap ((r12.2.v.Ab.length:Int)-1)).toNat]?).bind fun y20=>
(cO (Aj.mk r12.2.v.Ad (r12.2.v.Ab.set ((IntKind.i64.wrap ((r12.2.v.Ab.length:Int)-1)).toNat) (Ai.mk y20.Av true)) r12.2.v.Ah r12.2.v.Am) r12.1).bind fun r22=>
some (r22.1,r22.2)
else
(cK r12.2.v.Ab 0 (IntKind.i64.wrap ((r12.2.v.Ab.length:Int)-1))).bind fun s24=>
some ((Aj.mk r1.1 s24 r12.2.v.Ah r12.2.v.Am),(As.mk 0 r1.2.1))
else none
noncomputable def g465 (a0:Aj) (a1:Ak):Option (Aj×As):=
(g71 a0.Ad a1.ttl a1.El).bind fun r1=>
if (bif (r1.2.2==0) then ((a0.Ab.length:Int)==40) else false)=true then
Kf a0 a1 r1 9
else
Kf a0 a1 r1 r1.2.2
noncomputable def BX (a0:Aj) (a1:Al) (a2:Int):Option (Aj×As):=
if (a2 != 0)=true then
(cO a0 a2).bind fun r2=>
some (r2.1,r2.2)
else
some ((Aj.mk a1 a0.Ab a0.Ah a0.Am),(As.mk 0 0))
def g115 (a0:List Aa) (a1:Int) (a2:Int):Option (List Aa):=if (0≤a1∧a1≤a2∧a2≤(a0.length:Int))∧a0.length≤4398046511104 then some (a0.take a1.toNat++a0.drop a2.toNat) else none
noncomputable def g78 (a0:Al) (a1:Int):Option Al:=
(fI a0).bind fun r1=>
(g115 r1.Ae a1 (IntKind.i64.wrap (a1+1))).bind fun r3=>
some (Al.mk r1.clock r1.next r3)
noncomputable def Tn (a0:List Int) (s:Int):Option ((Int)⊕(Unit⊕Int)):=
match s with
| p5=>
if (decide (p5<(a0.length:Int)))=true then
(Cq a0 p5).bind fun y12=>
if (y12 != 0)=true then
some (.inr (.inr y12))
else
some (.inl (IntKind.i64.wrap (p5+1)))
else
some (.inr (.inl ()))
noncomputable def g109 (a0:List Int):Option Int:=
(Bz (Tn a0) 0).bind fun r15=>
(match r15 with
| .inl ()=>
some 0
| .inr q=>some q)
noncomputable def g69 (a0:Aa) (a1:Aa):Option Int:=
(rD a0.Bl a1.Bl).bind fun r1=>
(rD a0.id a1.id).bind fun r3=>
(g109 ([r1,r3]:List Int)).bind fun r5=>
some r5
noncomputable def Ye (a1:Int) (is3:Aa→Aa→Option Int) (s:(List Aa)×Int):Option (((List Aa)×Int)⊕((List Aa))):=
match s with
| (p136,p137)=>
(if ((decide (p137>a1))==true)=true then Cq p136 p137 else some default).bind fun y164=>
(if ((decide (p137>a1))==true)=true then p136[p137.toNat]? else some default).bind fun y166=>
(if ((decide (p137>a1))==true)=true then Cq p136 (IntKind.i64.wrap (p137-1)) else some default).bind fun y168=>
(if ((decide (p137>a1))==true)=true then p136[(IntKind.i64.wrap (p137-1)).toNat]? else some default).bind fun y170=>
(if ((decide (p137>a1))==true)=true then is3 y166 y170 else some default).bind fun r172=>
if (bif (decide (p137>a1)) then (decide (r172<0)) else false)=true then
(Cq p136 (IntKind.i64.wrap (p137-1))).bind fun y175=>
(p136[(IntKind.i64.wrap (p137-1)).toNat]?).bind fun y177=>
(Cq p136 p137).bind fun y179=>
(p136[p137.toNat]?).bind fun y181=>
(Cq (p136.set p137.toNat y177) (IntKind.i64.wrap (p137-1))).bind fun y183=>
((p136.set p137.toNat y177)[(IntKind.i64.wrap (p137-1)).toNat]?).bind fun y185=>
some (.inl (((p136.set p137.toNat y177).set ((IntKind.i64.wrap (p137-1)).toNat) y181),(IntKind.i64.wrap (p137-1))))
else
some (.inr p136)
noncomputable def Yd (a1:Int) (a2:Int) (is3:Aa→Aa→Option Int) (s:(List Aa)×Int):Option (((List Aa)×Int)⊕((List Aa))):=
match s with
| (p55,p56)=>
if (decide (p56<a2))=true then
(Bz (Ye a1 is3) (p55,p56)).bind fun r187=>
(match r187 with
| p163=>
some (.inl (p163,(IntKind.i64.wrap (p56+1)))))
else
some (.inr p55)
noncomputable def g148 (a0:List Aa) (a1:Int) (a2:Int) (is3:Aa→Aa→Option Int):Option (List Aa):=
(Bz (Yd a1 a2 is3) (a0,(IntKind.i64.wrap (a1+1)))).bind fun r189=>
(match r189 with
| p111=>
some p111)
noncomputable def Nd (a3:Int) (is4:Aa→Aa→Option Int) (p39:List Aa) (p40:Int) (p96:Int):Option (((List Aa)×Int)⊕((List Aa)⊕(List Aa))):=
(Cq p39 (IntKind.i64.wrap (a3+p40))).bind fun y97=>
(p39[(IntKind.i64.wrap (a3+p40)).toNat]?).bind fun y99=>
(Cq p39 (IntKind.i64.wrap (a3+p96))).bind fun y101=>
(p39[(IntKind.i64.wrap (a3+p96)).toNat]?).bind fun y103=>
(is4 y99 y103).bind fun r105=>
if (!(decide (r105<0)))=true then
some (.inr (.inr p39))
else
(Cq p39 (IntKind.i64.wrap (a3+p96))).bind fun y108=>
(p39[(IntKind.i64.wrap (a3+p96)).toNat]?).bind fun y110=>
(Cq p39 (IntKind.i64.wrap (a3+p40))).bind fun y112=>
(p39[(IntKind.i64.wrap (a3+p40)).toNat]?).bind fun y114=>
(Cq (p39.set ((IntKind.i64.wrap (a3+p40)).toNat) y110) (IntKind.i64.wrap (a3+p96))).bind fun y116=>
((p39.set ((IntKind.i64.wrap (a3+p40)).toNat) y110)[(IntKind.i64.wrap (a3+p96)).toNat]?).bind fun y118=>
some (.inl (((p39.set ((IntKind.i64.wrap (a3+p40)).toNat) y110).set ((IntKind.i64.wrap (a3+p96)).toNat) y114),p96))
noncomputable def Ys (a2:Int) (a3:Int) (is4:Aa→Aa→Option Int) (s:(List Aa)×Int):Option (((List Aa)×Int)⊕((List Aa)⊕(List Aa))):=
match s with
| (p39,p40)=>
if (decide ((IntKind.i64.wrap ((IntKind.i64.wrap (2*p40))+1))≥a2))=true then
some (.inr (.inl p39))
else
(if ((decide ((IntKind.i64.wrap ((IntKind.i64.wrap ((IntKind.i64.wrap (2*p40))+1))+1))<a2))==true)=true then Cq p39 (IntKind.i64.wrap (a3+(IntKind.i64.wrap ((IntKind.i64.wrap (2*p40))+1)))) else some default).bind fun y83=>
(if ((decide ((IntKind.i64.wrap ((IntKind.i64.wrap ((IntKind.i64.wrap (2*p40))+1))+1))<a2))==true)=true then p39[(IntKind.i64.wrap (a3+(IntKind.i64.wrap ((IntKind.i64.wrap (2*p40))+1)))).toNat]? else some default).bind fun y85=>
(if ((decide ((IntKind.i64.wrap ((IntKind.i64.wrap ((IntKind.i64.wrap (2*p40))+1))+1))<a2))==true)=true then Cq p39 (IntKind.i64.wrap ((IntKind.i64.wrap (a3+(IntKind.i64.wrap ((IntKind.i64.wrap (2*p40))+1))))+1)) else some default).bind fun y87=>
(if ((decide ((IntKind.i64.wrap ((IntKind.i64.wrap ((IntKind.i64.wrap (2*p40))+1))+1))<a2))==true)=true then p39[(IntKind.i64.wrap ((IntKind.i64.wrap (a3+(IntKind.i64.wrap ((IntKind.i64.wrap (2*p40))+1))))+1)).toNat]? else some default).bind fun y89=>
(if ((decide ((IntKind.i64.wrap ((IntKind.i64.wrap ((IntKind.i64.wrap (2*p40))+1))+1))<a2))==true)=true then is4 y85 y89 else some default).bind fun r91=>
Bp ((bif (decide ((IntKind.i64.wrap ((IntKind.i64.wrap ((IntKind.i64.wrap (2*p40))+1))+1))<a2)) then (decide (r91<0)) else false)) fun v93=>
if v93=true then
Nd a3 is4 p39 p40 (IntKind.i64.wrap ((IntKind.i64.wrap ((IntKind.i64.wrap (2*p40))+1))+1))
else
Nd a3 is4 p39 p40 (IntKind.i64.wrap ((IntKind.i64.wrap (2*p40))+1))
noncomputable def BT (a0:List Aa) (a1:Int) (a2:Int) (a3:Int) (is4:Aa→Aa→Option Int):Option (List Aa):=
(Bz (Ys a2 a3 is4) (a0,a1)).bind fun r122=>
(match r122 with
| .inl p81=>
some p81
| .inr q=>some q)
noncomputable def Yf (a1:Int) (a2:Int) (is3:Aa→Aa→Option Int) (s:(List Aa)×Int):Option (((List Aa)×Int)⊕((List Aa))):=
match s with
| (p7,p8)=>
if (decide (p8≥0))=true then
(BT p7 p8 (IntKind.i64.wrap (a2-a1)) a1 is3).bind fun r17=>
if r17.length=p7.length then
some (.inl (r17,(IntKind.i64.wrap (p8-1))))
else none
else
some (.inr p7)
noncomputable def Yg (a1:Int) (is3:Aa→Aa→Option Int) (s:(List Aa)×Int):Option (((List Aa)×Int)⊕((List Aa))):=
match s with
| (p38,p39)=>
if (decide (p39≥0))=true then
(Cq p38 (IntKind.i64.wrap (a1+p39))).bind fun y60=>
(p38[(IntKind.i64.wrap (a1+p39)).toNat]?).bind fun y62=>
(Cq p38 a1).bind fun y64=>
(p38[a1.toNat]?).bind fun y66=>
(Cq (p38.set a1.toNat y62) (IntKind.i64.wrap (a1+p39))).bind fun y68=>
((p38.set a1.toNat y62)[(IntKind.i64.wrap (a1+p39)).toNat]?).bind fun y70=>
(BT ((p38.set a1.toNat y62).set ((IntKind.i64.wrap (a1+p39)).toNat) y66) 0 p39 a1 is3).bind fun r72=>
if r72.length=((p38.set a1.toNat y62).set ((IntKind.i64.wrap (a1+p39)).toNat) y66).length then
some (.inl (r72,(IntKind.i64.wrap (p39-1))))
else none
else
some (.inr p38)
noncomputable def g149 (a0:List Aa) (a1:Int) (a2:Int) (is3:Aa→Aa→Option Int):Option (List Aa):=
Bp (IntKind.i64.wrap (((IntKind.i64.wrap ((IntKind.i64.wrap (a2-a1))-1))).tdiv 2)) fun v1=>
(Bz (Yf a1 a2 is3) (a0,v1)).bind fun r20=>
(match r20 with
| p15=>
(Bz (Yg a1 is3) (p15,(IntKind.i64.wrap ((IntKind.i64.wrap (a2-a1))-1)))).bind fun r75=>
(match r75 with
| p58=>
some p58))
noncomputable def fN (p5:Int) (p6:Int):Option Int:=
(Cq ([0,1,2,2,3,3,3,3,4,4,4,4,4,4,4,4,5,5,5,5,5,5,5,5,5,5,5,5,5,5,5,5,6,6,6,6,6,6,6,6,6,6,6,6,6,6,6,6,6,6,6,6,6,6,6,6,6,6,6,6,6,6,6,6,7,7,7,7,7,7,7,7,7,7,7,7,7,7,7,7,7,7,7,7,7,7,7,7,7,7,7,7,7,7,7,7,7,7,7,7,7,7,7,7,7,7,7,7,7,7,7,7,7,7,7,7,7,7,7,7,7,7,7,7,7,7,7,7,8,8,8,8,8,8,8,8,8,8,8,8,8,8,8,8,8,8,8,8,8,8,8,8,8,8,8,8,8,8,8,8,8,8,8,8,8,8,8,8,8,8,8,8,8,8,8,8,8,8,8,8,8,8,8,8,8,8,8,8,8,8,8,8,8,8,8,8,8,8,8,8,8,8,8,8,8,8,8,8,8,8,8,8,8,8,8,8,8,8,8,8,8,8,8,8,8,8,8,8,8,8,8,8,8,8,8,8,8,8,8,8,8,8,8,8,8,8,8,8,8,8,8,8,8,8,8,8]:List UInt8) ((b8 p5).toNat:Int)).bind fun y7=>
some (IntKind.i64.wrap (p6+(IntKind.i64.wrap ((y7).toNat:Int))))
noncomputable def fM (p2:Int) (p3:Int):Option Int:=
if (decide (p2≥256))=true then
fN (Nj .u32 p2 8) (IntKind.i64.wrap (p3+8))
else
fN p2 p3
noncomputable def g156 (a0:Int):Option Int:=
if (decide (a0≥65536))=true then
fM (Nj .u32 a0 16) 16
else
fM a0 0
noncomputable def Ub (p8:Int) (p9:Int):Option Int:=
(Cq ([0,1,2,2,3,3,3,3,4,4,4,4,4,4,4,4,5,5,5,5,5,5,5,5,5,5,5,5,5,5,5,5,6,6,6,6,6,6,6,6,6,6,6,6,6,6,6,6,6,6,6,6,6,6,6,6,6,6,6,6,6,6,6,6,7,7,7,7,7,7,7,7,7,7,7,7,7,7,7,7,7,7,7,7,7,7,7,7,7,7,7,7,7,7,7,7,7,7,7,7,7,7,7,7,7,7,7,7,7,7,7,7,7,7,7,7,7,7,7,7,7,7,7,7,7,7,7,7,8,8,8,8,8,8,8,8,8,8,8,8,8,8,8,8,8,8,8,8,8,8,8,8,8,8,8,8,8,8,8,8,8,8,8,8,8,8,8,8,8,8,8,8,8,8,8,8,8,8,8,8,8,8,8,8,8,8,8,8,8,8,8,8,8,8,8,8,8,8,8,8,8,8,8,8,8,8,8,8,8,8,8,8,8,8,8,8,8,8,8,8,8,8,8,8,8,8,8,8,8,8,8,8,8,8,8,8,8,8,8,8,8,8,8,8,8,8,8,8,8,8,8,8,8,8,8,8]:List UInt8) ((b8 p8).toNat:Int)).bind fun y10=>
some (IntKind.i64.wrap (p9+(IntKind.i64.wrap ((y10).toNat:Int))))
noncomputable def Ua (p5:Int) (p6:Int):Option Int:=
if (decide (p5≥256))=true then
Ub (Nj .u64 p5 8) (IntKind.i64.wrap (p6+8))
else
Ub p5 p6
noncomputable def Yr (p2:Int) (p3:Int):Option Int:=
if (decide (p2≥65536))=true then
Ua (Nj .u64 p2 16) (IntKind.i64.wrap (p3+16))
else
Ua p2 p3
noncomputable def g157 (a0:Int):Option Int:=
if (decide (a0≥4294967296))=true then
Yr (Nj .u64 a0 32) 32
else
Yr a0 0
noncomputable def BP (a0:Int):Option Int:=
if false=true then
(g156 (IntKind.u32.wrap a0)).bind fun r2=>
some r2
else
(g157 a0).bind fun r4=>
some r4
noncomputable def g160 (a0:Int):Option Int:=
(BP (IntKind.u64.wrap a0)).bind fun r1=>
if 0≤r1 then
some (gG .u64 1 r1)
else none
noncomputable def g161 (a0:Int):Option (Int×Int):=
Bp (cQ .u64 (cQ .u64 a0 (gG .u64 a0 13)) (Nj .u64 (cQ .u64 a0 (gG .u64 a0 13)) 7)) fun v1=>
some (cQ .u64 v1 (gG .u64 v1 17),cQ .u64 v1 (gG .u64 v1 17))
noncomputable def Tr (a1:Int) (p27:List Aa) (p28:Int) (r58:Int×Int) (p63:Int):Option (((List Aa)×Int×Int)⊕((List Aa))):=
(Cq p27 (IntKind.i64.wrap (a1+p63))).bind fun y64=>
(p27[(IntKind.i64.wrap (a1+p63)).toNat]?).bind fun y66=>
(Cq p27 p28).bind fun y68=>
(p27[p28.toNat]?).bind fun y70=>
(Cq (p27.set p28.toNat y66) (IntKind.i64.wrap (a1+p63))).bind fun y72=>
((p27.set p28.toNat y66)[(IntKind.i64.wrap (a1+p63)).toNat]?).bind fun y74=>
some (.inl (((p27.set p28.toNat y66).set ((IntKind.i64.wrap (a1+p63)).toNat) y70),(IntKind.i64.wrap (p28+1)),r58.2))
noncomputable def Tt (a1:Int) (a2:Int) (r2:Int) (s:(List Aa)×Int×Int):Option (((List Aa)×Int×Int)⊕((List Aa))):=
match s with
| (p27,p28,p29)=>
Bp ((decide (p28≤(IntKind.i64.wrap ((IntKind.i64.wrap (a1+(IntKind.i64.wrap ((IntKind.i64.wrap (((IntKind.i64.wrap (a2-a1))).tdiv 4))*2))))+1))))) fun v55=>
if v55=true then
(g161 p29).bind fun r58=>
Bp ((decide ((IntKind.i64.wrap (gD .u64 r58.1 (IntKind.u64.wrap (r2-1))))≥(IntKind.i64.wrap (a2-a1))))) fun v60=>
if v60=true then
Tr a1 p27 p28 r58 (IntKind.i64.wrap ((IntKind.i64.wrap (gD .u64 r58.1 (IntKind.u64.wrap (r2-1))))-(IntKind.i64.wrap (a2-a1))))
else
Tr a1 p27 p28 r58 (IntKind.i64.wrap (gD .u64 r58.1 (IntKind.u64.wrap (r2-1))))
else
some (.inr p27)
noncomputable def rH (a0:List Aa) (a1:Int) (a2:Int) (is3:Aa→Aa→Option Int):Option (List Aa):=
if (decide ((IntKind.i64.wrap (a2-a1))≥8))=true then
(g160 (IntKind.i64.wrap (a2-a1))).bind fun r2=>
Bp (IntKind.i64.wrap ((IntKind.i64.wrap (a1+(IntKind.i64.wrap ((IntKind.i64.wrap (((IntKind.i64.wrap (a2-a1))).tdiv 4))*2))))-1)) fun v4=>
(Bz (Tt a1 a2 r2) (a0,v4,(IntKind.u64.wrap (IntKind.i64.wrap (a2-a1))))).bind fun r78=>
(match r78 with
| p54=>
some p54)
else
some a0
noncomputable def rJ (a0:List Aa) (a1:Int) (a2:Int) (a3:Int) (is4:Aa→Aa→Option Int):Option (Int×Int×Int):=
(Cq a0 a2).bind fun y1=>
(Cq a0 a1).bind fun y3=>
(is4 y1 y3).bind fun r5=>
if (decide (r5<0))=true then
some (a2,a1,IntKind.i64.wrap (a3+1))
else
some (a1,a2,a3)
noncomputable def BU (a0:List Aa) (a1:Int) (a2:Int) (a3:Int) (a4:Int) (is5:Aa→Aa→Option Int):Option (Int×Int):=
(rJ a0 a1 a2 a4 is5).bind fun r1=>
(rJ a0 r1.2.1 a3 r1.2.2 is5).bind fun r3=>
(rJ a0 r1.1 r3.1 r3.2.2 is5).bind fun r5=>
some (r5.2.1,r5.2.2)
noncomputable def rI (a0:List Aa) (a1:Int) (a2:Int) (is3:Aa→Aa→Option Int):Option (Int×Int):=
(BU a0 (IntKind.i64.wrap (a1-1)) a1 (IntKind.i64.wrap (a1+1)) a2 is3).bind fun r1=>
some (r1.1,r1.2)
noncomputable def Tu (p21:Int) (p22:Int):Option (Int×Int):=
if (p22==0)=true then
some (p21,1)
else
if (p22==12)=true then
some (p21,2)
else
some (p21,0)
noncomputable def Tv (a0:List Aa) (is3:Aa→Aa→Option Int) (p34:Int) (p35:Int) (p36:Int) (p37:Int):Option (Int×Int):=
(BU a0 p34 p35 p36 p37 is3).bind fun r38=>
Tu r38.1 r38.2
noncomputable def g151 (a0:List Aa) (a1:Int) (a2:Int) (is3:Aa→Aa→Option Int):Option (Int×Int):=
Bp (IntKind.i64.wrap (a1+(IntKind.i64.wrap ((IntKind.i64.wrap (((IntKind.i64.wrap (a2-a1))).tdiv 4))*1)))) fun v1=>
Bp (IntKind.i64.wrap (a1+(IntKind.i64.wrap ((IntKind.i64.wrap (((IntKind.i64.wrap (a2-a1))).tdiv 4))*2)))) fun v3=>
Bp (IntKind.i64.wrap (a1+(IntKind.i64.wrap ((IntKind.i64.wrap (((IntKind.i64.wrap (a2-a1))).tdiv 4))*3)))) fun v5=>
if (decide ((IntKind.i64.wrap (a2-a1))≥8))=true then
if (decide ((IntKind.i64.wrap (a2-a1))≥50))=true then
(rI a0 v1 0 is3).bind fun r42=>
(rI a0 v3 r42.2 is3).bind fun r44=>
(rI a0 v5 r44.2 is3).bind fun r46=>
Tv a0 is3 r42.1 r44.1 r46.1 r46.2
else
Tv a0 is3 v1 v3 v5 0
else
Tu v3 0
noncomputable def Yh  (s:(List Aa)×Int×Int):Option (((List Aa)×Int×Int)⊕((List Aa))):=
match s with
| (p14,p15,p16)=>
if (decide (p15<p16))=true then
(Cq p14 p16).bind fun y35=>
(p14[p16.toNat]?).bind fun y37=>
(Cq p14 p15).bind fun y39=>
(p14[p15.toNat]?).bind fun y41=>
(Cq (p14.set p15.toNat y37) p16).bind fun y43=>
((p14.set p15.toNat y37)[p16.toNat]?).bind fun y45=>
some (.inl (((p14.set p15.toNat y37).set p16.toNat y41),(IntKind.i64.wrap (p15+1)),(IntKind.i64.wrap (p16-1))))
else
some (.inr p14)
noncomputable def g152 (a0:List Aa) (a1:Int) (a2:Int) (is3:Aa→Aa→Option Int):Option (List Aa):=
(Bz (Yh) (a0,a1,(IntKind.i64.wrap (a2-1)))).bind fun r47=>
(match r47 with
| p33=>
some p33)
noncomputable def Yi (p156:Int) (p465:List Aa) (p466:Int):Option (((List Aa)×Int×Int)⊕((List Aa)⊕(Bool×(List Aa)))):=
some (.inl (p465,p466,(IntKind.i64.wrap (p156+1))))
noncomputable def Yk (a2:Int) (is3:Aa→Aa→Option Int) (p154:List Aa) (s:Int):Option ((Int)⊕(Int)):=
match s with
| p479=>
(if ((decide (p479<a2))==true)=true then Cq p154 p479 else some default).bind fun y493=>
(if ((decide (p479<a2))==true)=true then p154[p479.toNat]? else some default).bind fun y495=>
(if ((decide (p479<a2))==true)=true then Cq p154 (IntKind.i64.wrap (p479-1)) else some default).bind fun y497=>
(if ((decide (p479<a2))==true)=true then p154[(IntKind.i64.wrap (p479-1)).toNat]? else some default).bind fun y499=>
(if ((decide (p479<a2))==true)=true then is3 y495 y499 else some default).bind fun r501=>
if (bif (decide (p479<a2)) then (!(decide (r501<0))) else false)=true then
some (.inl (IntKind.i64.wrap (p479+1)))
else
some (.inr p479)
noncomputable def Yl (a2:Int) (is3:Aa→Aa→Option Int) (s:(List Aa)×Int):Option (((List Aa)×Int)⊕((List Aa))):=
match s with
| (p602,p603)=>
if (decide (p603<a2))=true then
(Cq p602 p603).bind fun y632=>
(p602[p603.toNat]?).bind fun y634=>
(Cq p602 (IntKind.i64.wrap (p603-1))).bind fun y636=>
(p602[(IntKind.i64.wrap (p603-1)).toNat]?).bind fun y638=>
(is3 y634 y638).bind fun r640=>
if (!(decide (r640<0)))=true then
some (.inr p602)
else
(Cq p602 (IntKind.i64.wrap (p603-1))).bind fun y643=>
(p602[(IntKind.i64.wrap (p603-1)).toNat]?).bind fun y645=>
(Cq p602 p603).bind fun y647=>
(p602[p603.toNat]?).bind fun y649=>
(Cq (p602.set p603.toNat y645) (IntKind.i64.wrap (p603-1))).bind fun y651=>
((p602.set p603.toNat y645)[(IntKind.i64.wrap (p603-1)).toNat]?).bind fun y653=>
some (.inl (((p602.set p603.toNat y645).set ((IntKind.i64.wrap (p603-1)).toNat) y649),(IntKind.i64.wrap (p603+1))))
else
some (.inr p602)
noncomputable def Tw (a2:Int) (is3:Aa→Aa→Option Int) (p156:Int) (p492:Int) (p576:List Aa):Option (((List Aa)×Int×Int)⊕((List Aa)⊕(Bool×(List Aa)))):=
if (decide ((IntKind.i64.wrap (a2-p492))≥2))=true then
(Bz (Yl a2 is3) (p576,(IntKind.i64.wrap (p492+1)))).bind fun r655=>
(match r655 with
| p630=>
Yi p156 p630 p492)
else
Yi p156 p576 p492
noncomputable def Ym (is3:Aa→Aa→Option Int) (s:(List Aa)×Int):Option (((List Aa)×Int)⊕((List Aa))):=
match s with
| (p683,p684)=>
if (decide (p684≥1))=true then
(Cq p683 p684).bind fun y713=>
(p683[p684.toNat]?).bind fun y715=>
(Cq p683 (IntKind.i64.wrap (p684-1))).bind fun y717=>
(p683[(IntKind.i64.wrap (p684-1)).toNat]?).bind fun y719=>
(is3 y715 y719).bind fun r721=>
if (!(decide (r721<0)))=true then
some (.inr p683)
else
(Cq p683 (IntKind.i64.wrap (p684-1))).bind fun y724=>
(p683[(IntKind.i64.wrap (p684-1)).toNat]?).bind fun y726=>
(Cq p683 p684).bind fun y728=>
(p683[p684.toNat]?).bind fun y730=>
(Cq (p683.set p684.toNat y726) (IntKind.i64.wrap (p684-1))).bind fun y732=>
((p683.set p684.toNat y726)[(IntKind.i64.wrap (p684-1)).toNat]?).bind fun y734=>
some (.inl (((p683.set p684.toNat y726).set ((IntKind.i64.wrap (p684-1)).toNat) y730),(IntKind.i64.wrap (p684-1))))
else
some (.inr p683)
noncomputable def Yj (a1:Int) (a2:Int) (is3:Aa→Aa→Option Int) (s:(List Aa)×Int×Int):Option (((List Aa)×Int×Int)⊕((List Aa)⊕(Bool×(List Aa)))):=
match s with
| (p154,p155,p156)=>
if (decide (p156<5))=true then
(Bz (Yk a2 is3 p154) p155).bind fun r504=>
(match r504 with
| p492=>
if (p492==a2)=true then
some (.inr (.inr (true,p154)))
else
if (decide ((IntKind.i64.wrap (a2-a1))<50))=true then
some (.inr (.inr (false,p154)))
else
(Cq p154 (IntKind.i64.wrap (p492-1))).bind fun y508=>
(p154[(IntKind.i64.wrap (p492-1)).toNat]?).bind fun y510=>
(Cq p154 p492).bind fun y512=>
(p154[p492.toNat]?).bind fun y514=>
(Cq (p154.set p492.toNat y510) (IntKind.i64.wrap (p492-1))).bind fun y516=>
((p154.set p492.toNat y510)[(IntKind.i64.wrap (p492-1)).toNat]?).bind fun y518=>
Bp ((p154.set p492.toNat y510).set ((IntKind.i64.wrap (p492-1)).toNat) y514) fun v520=>
if (decide ((IntKind.i64.wrap (p492-a1))≥2))=true then
(Bz (Ym is3) (v520,(IntKind.i64.wrap (p492-1)))).bind fun r736=>
(match r736 with
| p711=>
Tw a2 is3 p156 p492 p711)
else
Tw a2 is3 p156 p492 v520)
else
some (.inr (.inl p154))
noncomputable def g153 (a0:List Aa) (a1:Int) (a2:Int) (is3:Aa→Aa→Option Int):Option (Bool×(List Aa)):=
(Bz (Yj a1 a2 is3) (a0,(IntKind.i64.wrap (a1+1)),0)).bind fun r738=>
(match r738 with
| .inl p313=>
some (false,p313)
| .inr q=>some q)
noncomputable def Yo (a1:Int) (is4:Aa→Aa→Option Int) (p84:List Aa) (p86:Int) (s:Int):Option ((Int)⊕(Int)):=
match s with
| p166=>
(if ((decide (p166≤p86))==true)=true then Cq p84 a1 else some default).bind fun y180=>
(if ((decide (p166≤p86))==true)=true then p84[a1.toNat]? else some default).bind fun y182=>
(if ((decide (p166≤p86))==true)=true then Cq p84 p166 else some default).bind fun y184=>
(if ((decide (p166≤p86))==true)=true then p84[p166.toNat]? else some default).bind fun y186=>
(if ((decide (p166≤p86))==true)=true then is4 y182 y186 else some default).bind fun r188=>
if (bif (decide (p166≤p86)) then (!(decide (r188<0))) else false)=true then
some (.inl (IntKind.i64.wrap (p166+1)))
else
some (.inr p166)
noncomputable def Yp (a1:Int) (is4:Aa→Aa→Option Int) (p84:List Aa) (p179:Int) (s:Int):Option ((Int)⊕(Int)):=
match s with
| p204=>
(if ((decide (p179≤p204))==true)=true then Cq p84 a1 else some default).bind fun y218=>
(if ((decide (p179≤p204))==true)=true then p84[a1.toNat]? else some default).bind fun y220=>
(if ((decide (p179≤p204))==true)=true then Cq p84 p204 else some default).bind fun y222=>
(if ((decide (p179≤p204))==true)=true then p84[p204.toNat]? else some default).bind fun y224=>
(if ((decide (p179≤p204))==true)=true then is4 y220 y224 else some default).bind fun r226=>
if (bif (decide (p179≤p204)) then (decide (r226<0)) else false)=true then
some (.inl (IntKind.i64.wrap (p204-1)))
else
some (.inr p204)
noncomputable def Yn (a1:Int) (is4:Aa→Aa→Option Int) (s:(List Aa)×Int×Int):Option (((List Aa)×Int×Int)⊕((List Aa)×Int)):=
match s with
| (p84,p85,p86)=>
(Bz (Yo a1 is4 p84 p86) p85).bind fun r191=>
(match r191 with
| p179=>
(Bz (Yp a1 is4 p84 p179) p86).bind fun r229=>
(match r229 with
| p217=>
if (decide (p179>p217))=true then
some (.inr (p84,p179))
else
(Cq p84 p217).bind fun y232=>
(p84[p217.toNat]?).bind fun y234=>
(Cq p84 p179).bind fun y236=>
(p84[p179.toNat]?).bind fun y238=>
(Cq (p84.set p179.toNat y234) p217).bind fun y240=>
((p84.set p179.toNat y234)[p217.toNat]?).bind fun y242=>
some (.inl (((p84.set p179.toNat y234).set p217.toNat y238),(IntKind.i64.wrap (p179+1)),(IntKind.i64.wrap (p217-1))))))
noncomputable def g154 (a0:List Aa) (a1:Int) (a2:Int) (a3:Int) (is4:Aa→Aa→Option Int):Option (Int×(List Aa)):=
(Cq a0 a3).bind fun y1=>
(a0[a3.toNat]?).bind fun y3=>
(Cq a0 a1).bind fun y5=>
(a0[a1.toNat]?).bind fun y7=>
(Cq (a0.set a1.toNat y3) a3).bind fun y9=>
((a0.set a1.toNat y3)[a3.toNat]?).bind fun y11=>
(Bz (Yn a1 is4) (((a0.set a1.toNat y3).set a3.toNat y7),(IntKind.i64.wrap (a1+1)),(IntKind.i64.wrap (a2-1)))).bind fun r244=>
(match r244 with
| (p153,p154)=>
some (p154,p153))
noncomputable def fK (a0:List Aa) (a1:Int) (a2:Int) (a3:Int) (is4:Aa→Aa→Option Int) (y3:Aa) (y7:Aa) (s:Int):Option ((Int)⊕(Int)):=
match s with
| p26=>
(if ((decide (p26≤(IntKind.i64.wrap (a2-1))))==true)=true then Cq ((a0.set a1.toNat y3).set a3.toNat y7) p26 else some default).bind fun y42=>
(if ((decide (p26≤(IntKind.i64.wrap (a2-1))))==true)=true then ((a0.set a1.toNat y3).set a3.toNat y7)[p26.toNat]? else some default).bind fun y44=>
(if ((decide (p26≤(IntKind.i64.wrap (a2-1))))==true)=true then Cq ((a0.set a1.toNat y3).set a3.toNat y7) a1 else some default).bind fun y46=>
(if ((decide (p26≤(IntKind.i64.wrap (a2-1))))==true)=true then ((a0.set a1.toNat y3).set a3.toNat y7)[a1.toNat]? else some default).bind fun y48=>
(if ((decide (p26≤(IntKind.i64.wrap (a2-1))))==true)=true then is4 y44 y48 else some default).bind fun r50=>
Bp ((bif (decide (p26≤(IntKind.i64.wrap (a2-1)))) then (decide (r50<0)) else false)) fun v52=>
if v52=true then
some (.inl (IntKind.i64.wrap (p26+1)))
else
some (.inr p26)
noncomputable def fL (a0:List Aa) (a1:Int) (a3:Int) (is4:Aa→Aa→Option Int) (y3:Aa) (y7:Aa) (p41:Int) (s:Int):Option ((Int)⊕(Int)):=
match s with
| p70=>
(if ((decide (p41≤p70))==true)=true then Cq ((a0.set a1.toNat y3).set a3.toNat y7) p70 else some default).bind fun y84=>
(if ((decide (p41≤p70))==true)=true then ((a0.set a1.toNat y3).set a3.toNat y7)[p70.toNat]? else some default).bind fun y86=>
(if ((decide (p41≤p70))==true)=true then Cq ((a0.set a1.toNat y3).set a3.toNat y7) a1 else some default).bind fun y88=>
(if ((decide (p41≤p70))==true)=true then ((a0.set a1.toNat y3).set a3.toNat y7)[a1.toNat]? else some default).bind fun y90=>
(if ((decide (p41≤p70))==true)=true then is4 y86 y90 else some default).bind fun r92=>
if (bif (decide (p41≤p70)) then (!(decide (r92<0))) else false)=true then
some (.inl (IntKind.i64.wrap (p70-1)))
else
some (.inr p70)
noncomputable def Tx (a1:Int) (is4:Aa→Aa→Option Int) (p195:List Aa) (p197:Int) (s:Int):Option ((Int)⊕(Int)):=
match s with
| p277=>
(if ((decide (p277≤p197))==true)=true then Cq p195 p277 else some default).bind fun y291=>
(if ((decide (p277≤p197))==true)=true then p195[p277.toNat]? else some default).bind fun y293=>
(if ((decide (p277≤p197))==true)=true then Cq p195 a1 else some default).bind fun y295=>
(if ((decide (p277≤p197))==true)=true then p195[a1.toNat]? else some default).bind fun y297=>
(if ((decide (p277≤p197))==true)=true then is4 y293 y297 else some default).bind fun r299=>
if (bif (decide (p277≤p197)) then (decide (r299<0)) else false)=true then
some (.inl (IntKind.i64.wrap (p277+1)))
else
some (.inr p277)
noncomputable def Tz (a1:Int) (is4:Aa→Aa→Option Int) (p195:List Aa) (p290:Int) (s:Int):Option ((Int)⊕(Int)):=
match s with
| p315=>
(if ((decide (p290≤p315))==true)=true then Cq p195 p315 else some default).bind fun y329=>
(if ((decide (p290≤p315))==true)=true then p195[p315.toNat]? else some default).bind fun y331=>
(if ((decide (p290≤p315))==true)=true then Cq p195 a1 else some default).bind fun y333=>
(if ((decide (p290≤p315))==true)=true then p195[a1.toNat]? else some default).bind fun y335=>
(if ((decide (p290≤p315))==true)=true then is4 y331 y335 else some default).bind fun r337=>
if (bif (decide (p290≤p315)) then (!(decide (r337<0))) else false)=true then
some (.inl (IntKind.i64.wrap (p315-1)))
else
some (.inr p315)
noncomputable def Yq (a1:Int) (is4:Aa→Aa→Option Int) (s:(List Aa)×Int×Int):Option (((List Aa)×Int×Int)⊕((List Aa)×Int)):=
match s with
| (p195,p196,p197)=>
(Bz (Tx a1 is4 p195 p197) p196).bind fun r302=>
(match r302 with
| p290=>
(Bz (Tz a1 is4 p195 p290) p197).bind fun r340=>
(match r340 with
| p328=>
if (decide (p290>p328))=true then
some (.inr (p195,p328))
else
(Cq p195 p328).bind fun y343=>
(p195[p328.toNat]?).bind fun y345=>
(Cq p195 p290).bind fun y347=>
(p195[p290.toNat]?).bind fun y349=>
(Cq (p195.set p290.toNat y345) p328).bind fun y351=>
((p195.set p290.toNat y345)[p328.toNat]?).bind fun y353=>
some (.inl (((p195.set p290.toNat y345).set p328.toNat y349),(IntKind.i64.wrap (p290+1)),(IntKind.i64.wrap (p328-1))))))
noncomputable def BS (a0:List Aa) (a1:Int) (a2:Int) (a3:Int) (is4:Aa→Aa→Option Int):Option (Int×Bool×(List Aa)):=
(Cq a0 a3).bind fun y1=>
(a0[a3.toNat]?).bind fun y3=>
(Cq a0 a1).bind fun y5=>
(a0[a1.toNat]?).bind fun y7=>
(Cq (a0.set a1.toNat y3) a3).bind fun y9=>
((a0.set a1.toNat y3)[a3.toNat]?).bind fun y11=>
(Bz (fK a0 a1 a2 a3 is4 y3 y7) (IntKind.i64.wrap (a1+1))).bind fun r55=>
(match r55 with
| p41=>
(Bz (fL a0 a1 a3 is4 y3 y7 p41) (IntKind.i64.wrap (a2-1))).bind fun r95=>
(match r95 with
| p83=>
if (decide (p41>p83))=true then
(Cq ((a0.set a1.toNat y3).set a3.toNat y7) a1).bind fun y98=>
(((a0.set a1.toNat y3).set a3.toNat y7)[a1.toNat]?).bind fun y100=>
(Cq ((a0.set a1.toNat y3).set a3.toNat y7) p83).bind fun y102=>
(((a0.set a1.toNat y3).set a3.toNat y7)[p83.toNat]?).bind fun y104=>
(Cq (((a0.set a1.toNat y3).set a3.toNat y7).set p83.toNat y100) a1).bind fun y106=>
((((a0.set a1.toNat y3).set a3.toNat y7).set p83.toNat y100)[a1.toNat]?).bind fun y108=>
Bp ((((a0.set a1.toNat y3).set a3.toNat y7).set p83.toNat y100).set a1.toNat y104) fun v110=>
some (p83,true,v110)
else
(Cq ((a0.set a1.toNat y3).set a3.toNat y7) p83).bind fun y112=>
(((a0.set a1.toNat y3).set a3.toNat y7)[p83.toNat]?).bind fun y114=>
(Cq ((a0.set a1.toNat y3).set a3.toNat y7) p41).bind fun y116=>
(((a0.set a1.toNat y3).set a3.toNat y7)[p41.toNat]?).bind fun y118=>
(Cq (((a0.set a1.toNat y3).set a3.toNat y7).set p41.toNat y114) p83).bind fun y120=>
((((a0.set a1.toNat y3).set a3.toNat y7).set p41.toNat y114)[p83.toNat]?).bind fun y122=>
Bp ((((a0.set a1.toNat y3).set a3.toNat y7).set p41.toNat y114).set p83.toNat y118) fun v124=>
(Bz (Yq a1 is4) (v124,(IntKind.i64.wrap (p41+1)),(IntKind.i64.wrap (p83-1)))).bind fun r355=>
(match r355 with
| (p264,p265)=>
(Cq p264 a1).bind fun y357=>
(p264[a1.toNat]?).bind fun y359=>
(Cq p264 p265).bind fun y361=>
(p264[p265.toNat]?).bind fun y363=>
(Cq (p264.set p265.toNat y359) a1).bind fun y365=>
((p264.set p265.toNat y359)[a1.toNat]?).bind fun y367=>
some (p265,false,(p264.set p265.toNat y359).set a1.toNat y363))))
noncomputable def Tq (is4:Aa→Aa→Option Int) (rc137:(List Aa)→Int→Int→Int→(Aa→Aa→Option Int)→Option (List Aa)) (p63:Int) (p64:Int) (p66:Bool) (p67:Bool) (p148:Int) (p158:Int) (p165:List Aa):Option (((List Aa)×Int×Int×Int×Bool×Bool)⊕((List Aa))):=
(if ((decide (p63>0))==true)=true then Cq p165 (IntKind.i64.wrap (p63-1)) else some default).bind fun y166=>
(if ((decide (p63>0))==true)=true then p165[(IntKind.i64.wrap (p63-1)).toNat]? else some default).bind fun y168=>
(if ((decide (p63>0))==true)=true then Cq p165 p158 else some default).bind fun y170=>
(if ((decide (p63>0))==true)=true then p165[p158.toNat]? else some default).bind fun y172=>
(if ((decide (p63>0))==true)=true then is4 y168 y172 else some default).bind fun r174=>
if (bif (decide (p63>0)) then (!(decide (r174<0))) else false)=true then
(g154 p165 p63 p64 p158 is4).bind fun r177=>
if r177.2.length=p165.length then
some (.inl (r177.2,r177.1,p64,p148,p66,p67))
else none
else
(BS p165 p63 p64 p158 is4).bind fun r180=>
if r180.2.2.length=p165.length then
Bp ((decide ((IntKind.i64.wrap (r180.1-p63))<(IntKind.i64.wrap (p64-r180.1))))) fun v183=>
if v183=true then
Bp ((decide ((IntKind.i64.wrap (r180.1-p63))≥(IntKind.i64.wrap (((IntKind.i64.wrap (p64-p63))).tdiv 8))))) fun v186=>
(rc137 r180.2.2 p63 r180.1 p148 is4).bind fun r188=>
if r188.length=r180.2.2.length then
some (.inl (r188,(IntKind.i64.wrap (r180.1+1)),p64,p148,v186,r180.2.1))
else none
else
Bp ((decide ((IntKind.i64.wrap (p64-r180.1))≥(IntKind.i64.wrap (((IntKind.i64.wrap (p64-p63))).tdiv 8))))) fun v191=>
(rc137 r180.2.2 (IntKind.i64.wrap (r180.1+1)) p64 p148 is4).bind fun r193=>
if r193.length=r180.2.2.length then
some (.inl (r193,p63,r180.1,p148,v191,r180.2.1))
else none
else none
noncomputable def Qw (is4:Aa→Aa→Option Int) (rc137:(List Aa)→Int→Int→Int→(Aa→Aa→Option Int)→Option (List Aa)) (p63:Int) (p64:Int) (p66:Bool) (p67:Bool) (p148:Int) (p157:List Aa) (p158:Int) (p159:Int):Option (((List Aa)×Int×Int×Int×Bool×Bool)⊕((List Aa))):=
if (bif (bif p66 then p67 else false) then (p159==1) else false)=true then
(g153 p157 p63 p64 is4).bind fun r198=>
if r198.2.length=p157.length then
if r198.1=true then
some (.inr r198.2)
else
Tq is4 rc137 p63 p64 p66 p67 p148 p158 r198.2
else none
else
Tq is4 rc137 p63 p64 p66 p67 p148 p158 p157
noncomputable def Lq (is4:Aa→Aa→Option Int) (rc137:(List Aa)→Int→Int→Int→(Aa→Aa→Option Int)→Option (List Aa)) (p63:Int) (p64:Int) (p66:Bool) (p67:Bool) (p147:List Aa) (p148:Int):Option (((List Aa)×Int×Int×Int×Bool×Bool)⊕((List Aa))):=
(g151 p147 p63 p64 is4).bind fun r149=>
if (r149.2==2)=true then
(g152 p147 p63 p64 is4).bind fun r204=>
if r204.length=p147.length then
Bp (IntKind.i64.wrap ((IntKind.i64.wrap (p64-1))-(IntKind.i64.wrap (r149.1-p63)))) fun v207=>
Qw is4 rc137 p63 p64 p66 p67 p148 r204 v207 1
else none
else
Qw is4 rc137 p63 p64 p66 p67 p148 p147 r149.1 r149.2
noncomputable def Ke (is4:Aa→Aa→Option Int) (rc137:(List Aa)→Int→Int→Int→(Aa→Aa→Option Int)→Option (List Aa)) (s:(List Aa)×Int×Int×Int×Bool×Bool):Option (((List Aa)×Int×Int×Int×Bool×Bool)⊕((List Aa))):=
match s with
| (p62,p63,p64,p65,p66,p67)=>
if (decide ((IntKind.i64.wrap (p64-p63))≤12))=true then
(g148 p62 p63 p64 is4).bind fun r136=>
if r136.length=p62.length then
some (.inr r136)
else none
else
if (p65==0)=true then
(g149 p62 p63 p64 is4).bind fun r140=>
if r140.length=p62.length then
some (.inr r140)
else none
else
if (!p66)=true then
(rH p62 p63 p64 is4).bind fun r211=>
if r211.length=p62.length then
Lq is4 rc137 p63 p64 p66 p67 r211 (IntKind.i64.wrap (p65-1))
else none
else
Lq is4 rc137 p63 p64 p66 p67 p62 p65
noncomputable def Vq (rc137:(List Aa)→Int→Int→Int→(Aa→Aa→Option Int)→Option (List Aa)) (a0:List Aa) (a1:Int) (a2:Int) (a3:Int) (is4:Aa→Aa→Option Int):Option (List Aa):=
(Bz (Ke is4 rc137) (a0,a1,a2,a3,true,true)).bind fun r214=>
(match r214 with
| q=>some q)
noncomputable def lS (n:Nat):(List Aa)→Int→Int→Int→(Aa→Aa→Option Int)→Option (List Aa):=Nat.rec (fun _ _ _ _ _=>none) (fun _ rc=>Vq rc) n
noncomputable def BN (a0:List Aa) (is1:Aa→Aa→Option Int):Option (List Aa):=
(BP (IntKind.u64.wrap (a0.length:Int))).bind fun r1=>
(lS Oj a0 0 (a0.length:Int) r1 is1).bind fun r3=>
if r3.length=a0.length then
some r3
else none
noncomputable def aH (p21:Int) (p58:List Aa) (p59:List Aa):Option (((List Aa)×(List Aa)×Int)⊕((List Aa)×(List Aa))):=
some (.inl (p58,p59,(IntKind.i64.wrap (p21+1))))
noncomputable def Sm (a0:Al) (a1:Int) (r1:Al) (s:(List Aa)×(List Aa)×Int):Option (((List Aa)×(List Aa)×Int)⊕((List Aa)×(List Aa))):=
match s with
| (p19,p20,p21)=>
if (decide (p21<(r1.Ae.length:Int)))=true then
(Cq p20 p21).bind fun y62=>
(p20[p21.toNat]?).bind fun y64=>
Bp ((bif (!y64.Ck) then (decide (y64.Bl≤(if a1>a0.clock then a1 else a0.clock))) else false)) fun v66=>
if v66=true then
(Cq p20 p21).bind fun y69=>
(p20[p21.toNat]?).bind fun y71=>
if (p19.length+([y64]:List Aa).length)*32≤140737488355328 then
aH p21 (p19++([y64]:List Aa)) (p20.set p21.toNat (Aa.mk y71.id y71.Bl y71.cap true))
else none
else
aH p21 p19 p20
else
some (.inr (p19,p20))
noncomputable def g82 (a0:Al) (a1:Int):Option (Al×(List Int)):=
(fI a0).bind fun r1=>
(Bz (Sm a0 a1 r1) ([],r1.Ae,0)).bind fun r74=>
(match r74 with
| (p43,p44)=>
(BN p43 (fun z69_0 z69_1=>g69 z69_0 z69_1)).bind fun r76=>
if r76.length=p43.length then
(g60 (Al.mk 0 0 r76)).bind fun r79=>
some ((Al.mk (if a1>a0.clock then a1 else a0.clock) r1.next p44),r79)
else none)
noncomputable def mL (a0:Ak) (a1:Da):Option Bool:=
some (bif (a0.stop==2) then (a1.Gu==1) else false)
noncomputable def pB (a0:List Ai) (is1:Ai→Option Bool) (s:Int):Option ((Int)⊕(Unit⊕Int)):=
match s with
| p7=>
if (decide (p7<(a0.length:Int)))=true then
(Cq a0 p7).bind fun y16=>
(is1 y16).bind fun r18=>
if r18=true then
some (.inr (.inr p7))
else
some (.inl (IntKind.i64.wrap (p7+1)))
else
some (.inr (.inl ()))
noncomputable def g475 (a0:List Ai) (is1:Ai→Option Bool):Option Int:=
(Bz (pB a0 is1) 0).bind fun r21=>
(match r21 with
| .inl ()=>
some (-1)
| .inr q=>some q)
noncomputable def fU (p20:Int) (p52:List Ai) (p53:Int):Option (((List Ai)×Int×Int)⊕((List Ai)×Int)):=
some (.inl (p52,p53,(IntKind.i64.wrap (p20+1))))
noncomputable def pA (is1:Ai→Option Bool) (s:(List Ai)×Int×Int):Option (((List Ai)×Int×Int)⊕((List Ai)×Int)):=
match s with
| (p18,p19,p20)=>
if (decide (p20<(p18.length:Int)))=true then
(Cq p18 p20).bind fun y55=>
(p18[p20.toNat]?).bind fun y57=>
(is1 y57).bind fun r59=>
if (!r59)=true then
(Cq p18 p19).bind fun y62=>
(p18[p19.toNat]?).bind fun y64=>
fU p20 (p18.set p19.toNat y57) (IntKind.i64.wrap (p19+1))
else
fU p20 p18 p19
else
some (.inr (p18,p19))
noncomputable def BY (a0:List Ai) (is1:Ai→Option Bool):Option (List Ai):=
(g475 a0 is1).bind fun r1=>
if (r1==(-1))=true then
some a0
else
(Bz (pA is1) (a0,r1,(IntKind.i64.wrap (r1+1)))).bind fun r66=>
(match r66 with
| (p38,p39)=>
(cK p38 p39 (p38.length:Int)).bind fun s68=>
(cK (ovl p38 p39.toNat (List.replicate s68.length (Ai.mk 0 false))) 0 p39).bind fun s70=>
some s70)
noncomputable def BZ (a0:Ai) (a1:Ai):Option Bool:=
some (a0.Av==a1.Av)
noncomputable def Ud (p43:Int) (p143:Int) (p144:Int) (p145:List Aa) (p146:List Ai) (p147:List Int) (p148:Bool) (p149:Int) (p150:Int) (p151:Int) (p152:Int) (p153:Int) (p154:List Int) (p155:Int) (p156:Int):Option ((Int×Int×Int×(List Aa)×(List Ai)×(List Int)×Bool×Int×Int×Int×Int×Int×(List Int)×Int×Int)⊕((Int×Int×(List Aa)×(List Ai)×(List Int)×Bool×Int×Int×Int×Int×Int×(List Int)×Int×Int)⊕(Aj×As))):=
some (.inl ((IntKind.i64.wrap (p43+1)),p143,p144,p145,p146,p147,p148,p149,p150,p151,p152,p153,p154,p155,p156))
noncomputable def Qz (a1:Ak) (p43:Int) (r163:Int×Da) (p170:Int) (p171:Int) (p172:List Aa):Option ((Int×Int×Int×(List Aa)×(List Ai)×(List Int)×Bool×Int×Int×Int×Int×Int×(List Int)×Int×Int)⊕((Int×Int×(List Aa)×(List Ai)×(List Int)×Bool×Int×Int×Int×Int×Int×(List Int)×Int×Int)⊕(Aj×As))):=
(mL a1 (Da.mk (Aj.mk (Al.mk p170 p171 p172) r163.2.v.Ab r163.2.v.Ah r163.2.v.Am) r163.2.a r163.2.Gu)).bind fun r173=>
if r173=true then
(fR (Aj.mk (Al.mk p170 p171 p172) r163.2.v.Ab r163.2.v.Ah r163.2.v.Am)).bind fun r176=>
some (.inr (.inr (r176.1,r176.2)))
else
Ud p43 p170 p171 p172 r163.2.v.Ab r163.2.v.Ah r163.2.v.Am r163.2.a.kind r163.2.a.id r163.2.a.ttl r163.2.a.El r163.2.a.clock r163.2.a.Ce r163.2.a.stop r163.2.Gu
noncomputable def Kg (a1:Ak) (r6:(List Aa)) (s:Int×Int×Int×(List Aa)×(List Ai)×(List Int)×Bool×Int×Int×Int×Int×Int×(List Int)×Int×Int):Option ((Int×Int×Int×(List Aa)×(List Ai)×(List Int)×Bool×Int×Int×Int×Int×Int×(List Int)×Int×Int)⊕((Int×Int×(List Aa)×(List Ai)×(List Int)×Bool×Int×Int×Int×Int×Int×(List Int)×Int×Int)⊕(Aj×As))):=
match s with
| (p43,p44,p45,p46,p47,p48,p49,p50,p51,p52,p53,p54,p55,p56,p57)=>
if (decide (p43<(r6.length:Int)))=true then
(Cq r6 p43).bind fun y158=>
(r6[p43.toNat]?).bind fun y160=>
if (!y160.Ck)=true then
Ud p43 p44 p45 p46 p47 p48 p49 p50 p51 p52 p53 p54 p55 p56 p57
else
(fS (Da.mk (Aj.mk (Al.mk p44 p45 p46) p47 p48 p49) (Ak.mk p50 p51 p52 p53 p54 p55 p56) p57) y160.id false).bind fun r163=>
(FM r163.2.v.Ad y160.id).bind fun r165=>
if (r163.1==0)=true then
(g78 r163.2.v.Ad r165.1).bind fun r180=>
Qz a1 p43 r163 r180.clock r180.next r180.Ae
else
Qz a1 p43 r163 r163.2.v.Ad.clock r163.2.v.Ad.next r163.2.v.Ad.Ae
else
some (.inr (.inl (p44,p45,p46,p47,p48,p49,p50,p51,p52,p53,p54,p55,p56,p57)))
noncomputable def Ue (p217:Int) (p309:Int) (p310:Int) (p311:List Aa) (p312:List Ai) (p313:List Int) (p314:Bool) (p315:Int) (p316:Int) (p317:Int) (p318:Int) (p319:Int) (p320:List Int) (p321:Int) (p322:Int):Option ((Int×Int×Int×(List Aa)×(List Ai)×(List Int)×Bool×Int×Int×Int×Int×Int×(List Int)×Int×Int)⊕((Int×Int×(List Aa)×(List Ai)×(List Int)×Bool×Int×Int×Int×Int×Int×(List Int)×Int×Int)⊕(Aj×As))):=
some (.inl ((IntKind.i64.wrap (p217+1)),p309,p310,p311,p312,p313,p314,p315,p316,p317,p318,p319,p320,p321,p322))
noncomputable def Ra (a1:Ak) (p217:Int) (r329:Int×Da) (p334:List Ai):Option ((Int×Int×Int×(List Aa)×(List Ai)×(List Int)×Bool×Int×Int×Int×Int×Int×(List Int)×Int×Int)⊕((Int×Int×(List Aa)×(List Ai)×(List Int)×Bool×Int×Int×Int×Int×Int×(List Int)×Int×Int)⊕(Aj×As))):=
(mL a1 (Da.mk (Aj.mk r329.2.v.Ad p334 r329.2.v.Ah r329.2.v.Am) r329.2.a r329.2.Gu)).bind fun r335=>
if r335=true then
(fR (Aj.mk r329.2.v.Ad p334 r329.2.v.Ah r329.2.v.Am)).bind fun r338=>
some (.inr (.inr (r338.1,r338.2)))
else
Ue p217 r329.2.v.Ad.clock r329.2.v.Ad.next r329.2.v.Ad.Ae p334 r329.2.v.Ah r329.2.v.Am r329.2.a.kind r329.2.a.id r329.2.a.ttl r329.2.a.El r329.2.a.clock r329.2.a.Ce r329.2.a.stop r329.2.Gu
noncomputable def Ir (a1:Ak) (r184:(List Ai)) (s:Int×Int×Int×(List Aa)×(List Ai)×(List Int)×Bool×Int×Int×Int×Int×Int×(List Int)×Int×Int):Option ((Int×Int×Int×(List Aa)×(List Ai)×(List Int)×Bool×Int×Int×Int×Int×Int×(List Int)×Int×Int)⊕((Int×Int×(List Aa)×(List Ai)×(List Int)×Bool×Int×Int×Int×Int×Int×(List Int)×Int×Int)⊕(Aj×As))):=
match s with
| (p217,p218,p219,p220,p221,p222,p223,p224,p225,p226,p227,p228,p229,p230,p231)=>
if (decide (p217<(r184.length:Int)))=true then
(Cq r184 p217).bind fun y324=>
(r184[p217.toNat]?).bind fun y326=>
if (!y326.Ol)=true then
Ue p217 p218 p219 p220 p221 p222 p223 p224 p225 p226 p227 p228 p229 p230 p231
else
(fS (Da.mk (Aj.mk (Al.mk p218 p219 p220) p221 p222 p223) (Ak.mk p224 p225 p226 p227 p228 p229 p230) p231) y326.Av false).bind fun r329=>
if (r329.1==0)=true then
(BY r329.2.v.Ab (fun z474_0=>BZ z474_0 y326)).bind fun r342=>
Ra a1 p217 r329 r342
else
Ra a1 p217 r329 r329.2.v.Ab
else
some (.inr (.inl (p218,p219,p220,p221,p222,p223,p224,p225,p226,p227,p228,p229,p230,p231)))
noncomputable def g467 (a0:Aj) (a1:Ak):Option (Aj×As):=
(g82 a0.Ad a1.clock).bind fun r1=>
if (a1.stop==1)=true then
(fR (Aj.mk r1.1 a0.Ab a0.Ah a0.Am)).bind fun r4=>
some (r4.1,r4.2)
else
(g66 r1.1.Ae).bind fun r6=>
(Bz (Kg a1 r6) (0,r1.1.clock,r1.1.next,r1.1.Ae,a0.Ab,a0.Ah,a0.Am,a1.kind,a1.id,a1.ttl,a1.El,a1.clock,a1.Ce,a1.stop,0)).bind fun r182=>
(match r182 with
| .inl (p108,p109,p110,p111,p112,p113,p114,p115,p116,p117,p118,p119,p120,p121)=>
(mK p111).bind fun r184=>
(Bz (Ir a1 r184) (0,p108,p109,p110,p111,p112,p113,p114,p115,p116,p117,p118,p119,p120,p121)).bind fun r344=>
(match r344 with
| .inl (p278,p279,p280,p281,p282,p283,p284,p285,p286,p287,p288,p289,p290,p291)=>
some ((Aj.mk (Al.mk p278 p279 p280) p281 p282 p283),(As.mk 0 0))
| .inr q=>some q)
| .inr q=>some q)
noncomputable def jF (a0:Aj) (a1:Ak):Option (Aj×As):=
(g463 a0).bind fun r1=>
(rM a1.kind 1 6).bind fun r3=>
if (!r3)=true then
(cO r1 16).bind fun r6=>
some (r6.1,r6.2)
else
if (bif r1.Am then (a1.kind != 6) else false)=true then
(cO r1 14).bind fun r9=>
some (r9.1,r9.2)
else
if (a1.kind==1)=true then
(g465 r1 a1).bind fun r12=>
some (r12.1,r12.2)
else
if (a1.kind==2)=true then
(g80 r1.Ad a1.id a1.ttl).bind fun r15=>
(BX r1 r15.1 r15.2).bind fun r17=>
some (r17.1,r17.2)
else
if (a1.kind==3)=true then
(g75 r1.Ad a1.id).bind fun r20=>
(BX r1 r20.1 r20.2).bind fun r22=>
some (r22.1,r22.2)
else
if (a1.kind==4)=true then
(g467 r1 a1).bind fun r25=>
some (r25.1,r25.2)
else
some ((Aj.mk r1.Ad r1.Ab r1.Ah (a1.kind==5)),(As.mk 0 0))
noncomputable def Yt (a0:List Ak) (s:(List As)×Int×Int×Int×(List Aa)×(List Ai)×(List Int)×Bool):Option (((List As)×Int×Int×Int×(List Aa)×(List Ai)×(List Int)×Bool)⊕((List As)×Int×Int×(List Aa)×(List Ai)×(List Int)×Bool)):=
match s with
| (p16,p17,p18,p19,p20,p21,p22,p23)=>
if (decide (p17<(a0.length:Int)))=true then
(Cq a0 p17).bind fun y46=>
(jF (Aj.mk (Al.mk p18 p19 p20) p21 p22 p23) y46).bind fun r48=>
if (p16.length+([r48.2]:List As).length)*16≤140737488355328 then
some (.inl ((p16++([r48.2]:List As)),(IntKind.i64.wrap (p17+1)),r48.1.Ad.clock,r48.1.Ad.next,r48.1.Ad.Ae,r48.1.Ab,r48.1.Ah,r48.1.Am))
else none
else
some (.inr (p16,p18,p19,p20,p21,p22,p23))
noncomputable def g438 (a0:List Ak):Option (Aj×(List As)×Int):=
(g455 a0).bind fun r1=>
if (!r1)=true then
some ((Aj.mk (Al.mk 0 0 ([]:List Aa)) ([]:List Ai) ([]:List Int) false),[],2)
else
if (decide ((a0.length:Int)>120))=true then
some ((Aj.mk (Al.mk 0 0 ([]:List Aa)) ([]:List Ai) ([]:List Int) false),[],6)
else
(g456 a0 (fun z457_0=>mJ z457_0)).bind fun r5=>
if (!r5)=true then
some ((Aj.mk (Al.mk 0 0 ([]:List Aa)) ([]:List Ai) ([]:List Int) false),[],1)
else
(g458).bind fun r8=>
(Bz (Yt a0) ([],0,r8.Ad.clock,r8.Ad.next,r8.Ad.Ae,r8.Ab,r8.Ah,r8.Am)).bind fun r51=>
(match r51 with
| (p38,p39,p40,p41,p42,p43,p44)=>
some ((Aj.mk (Al.mk p39 p40 p41) p42 p43 p44),p38,0))
noncomputable def g460 (a0:List Ai):Option Bool:=
some (decide ((a0.length:Int)≤4096))
noncomputable def g439 (a0:Aj):Option (Int×Int):=
(g20 a0.Ad).bind fun r1=>
(if ((!r1)==false)=true then g460 a0.Ab else some default).bind fun r3=>
(if ((bif (!r1) then true else (!r3))==false)=true then g87 a0.Ah else some default).bind fun r5=>
if (bif (bif (!r1) then true else (!r3)) then true else (!r5))=true then
some (0,1)
else
(g96 a0).bind fun r8=>
if r8.2=true then
some (r8.1,13)
else
some (0,0)
noncomputable def rK (a0:Aj) (a1:Ak):Option (Aj×As×Int):=
(g48 a0).bind fun r1=>
(if ((!r1)==false)=true then mJ a1 else some default).bind fun r3=>
if (bif (!r1) then true else (!r3))=true then
some ((Aj.mk (Al.mk 0 0 ([]:List Aa)) ([]:List Ai) ([]:List Int) false),(As.mk 0 0),1)
else
(jF a0 a1).bind fun r6=>
some (r6.1,r6.2,0)
noncomputable def pC (a0:Int) (a1:Int) (a2:Int):Option Bool:=
some (bif (decide (a0≥a1)) then (decide (a0≤a2)) else false)
noncomputable def aB (a0:Al) (s:Int):Option ((Int)⊕(Unit⊕Bool)):=
match s with
| p16=>
if (decide (p16<(a0.Ae.length:Int)))=true then
(Cq a0.Ae p16).bind fun y29=>
(pC y29.id 1 (IntKind.i64.wrap (a0.next-1))).bind fun r31=>
(if (((!r31)==false)&&((decide (p16>0))==true))=true then Cq a0.Ae (IntKind.i64.wrap (p16-1)) else some default).bind fun y33=>
Bp ((bif (bif (bif (bif (!r31) then true else (bif (decide (p16>0)) then (decide (y33.id≥y29.id)) else false)) then true else (decide (y29.Bl<0))) then true else (decide (y29.Bl>y29.cap))) then true else (bif (!y29.Ck) then (decide (y29.Bl≤a0.clock)) else false))) fun v35=>
if v35=true then
some (.inr (.inr false))
else
some (.inl (IntKind.i64.wrap (p16+1)))
else
some (.inr (.inl ()))
noncomputable def g18 (a0:Al):Option Bool:=
(if ((decide (a0.clock<0))==false)=true then pC a0.next 1 1000000 else some default).bind fun r1=>
Bp ((bif (bif (decide (a0.clock<0)) then true else (!r1)) then true else (decide ((a0.Ae.length:Int)>40)))) fun v3=>
if v3=true then
some false
else
(Bz (aB a0) 0).bind fun r38=>
(match r38 with
| .inl ()=>
some true
| .inr q=>some q)
noncomputable def aI (a0:List Int) (a1:Int) (s:Int):Option ((Int)⊕(Unit⊕Bool)):=
match s with
| p13=>
if (decide (p13<(a0.length:Int)))=true then
(Cq a0 p13).bind fun y28=>
(pC y28 1 (IntKind.i64.wrap (a1-1))).bind fun r30=>
(if (((!r30)==false)&&((decide (p13>0))==true))=true then Cq a0 (IntKind.i64.wrap (p13-1)) else some default).bind fun y32=>
(if (((!r30)==false)&&((decide (p13>0))==true))=true then Cq a0 p13 else some default).bind fun y34=>
Bp ((bif (!r30) then true else (bif (decide (p13>0)) then (decide (y32≥y34)) else false))) fun v36=>
if v36=true then
some (.inr (.inr false))
else
some (.inl (IntKind.i64.wrap (p13+1)))
else
some (.inr (.inl ()))
noncomputable def g85 (a0:List Int) (a1:Int):Option Bool:=
(Bz (aI a0 a1) 0).bind fun r39=>
(match r39 with
| .inl ()=>
some true
| .inr q=>some q)
noncomputable def fZ (a0:Al) (a1:Int) (s:Int):Option ((Int)⊕(Unit⊕Int)):=
match s with
| p5=>
if (decide (p5<(a0.Ae.length:Int)))=true then
(Cq a0.Ae p5).bind fun y12=>
if (y12.id==a1)=true then
some (.inr (.inr p5))
else
some (.inl (IntKind.i64.wrap (p5+1)))
else
some (.inr (.inl ()))
noncomputable def FN (a0:Al) (a1:Int):Option Int:=
(Bz (fZ a0 a1) 0).bind fun r15=>
(match r15 with
| .inl ()=>
some (-1)
| .inr q=>some q)
noncomputable def Xx (a0:Aj) (a1:Int) (s:Int):Option ((Int)⊕(Unit⊕Int)):=
match s with
| p5=>
if (decide (p5<(a0.Ab.length:Int)))=true then
(Cq a0.Ab p5).bind fun y12=>
if (y12.Av==a1)=true then
some (.inr (.inr p5))
else
some (.inl (IntKind.i64.wrap (p5+1)))
else
some (.inr (.inl ()))
noncomputable def g124 (a0:Aj) (a1:Int):Option Int:=
(Bz (Xx a0 a1) 0).bind fun r15=>
(match r15 with
| .inl ()=>
some (-1)
| .inr q=>some q)
noncomputable def gA (a0:Aj) (s:Int):Option ((Int)⊕(Unit⊕Int)):=
match s with
| p13=>
if (decide (p13<(a0.Ah.length:Int)))=true then
(Cq a0.Ah p13).bind fun y28=>
(FN a0.Ad y28).bind fun r30=>
(if ((decide (r30<0))==true)=true then Cq a0.Ah p13 else some default).bind fun y32=>
(if ((decide (r30<0))==true)=true then g124 a0 y32 else some default).bind fun r34=>
if (bif (decide (r30<0)) then (decide (r34<0)) else false)=true then
(Cq a0.Ah p13).bind fun y37=>
some (.inr (.inr y37))
else
some (.inl (IntKind.i64.wrap (p13+1)))
else
some (.inr (.inl ()))
noncomputable def g93 (a0:Aj):Option Int:=
(Bz (gA a0) 0).bind fun r39=>
(match r39 with
| .inl ()=>
some 0
| .inr q=>some q)
noncomputable def aD (a0:Aj) (s:Int):Option ((Int)⊕(Unit⊕Bool)):=
match s with
| p20=>
if (decide (p20<(a0.Ab.length:Int)))=true then
(Cq a0.Ab p20).bind fun y35=>
(pC y35.Av 1 (IntKind.i64.wrap (a0.Ad.next-1))).bind fun r37=>
(if (((!r37)==false)&&((decide (p20>0))==true))=true then Cq a0.Ab (IntKind.i64.wrap (p20-1)) else some default).bind fun y39=>
(if ((bif (!r37) then true else (bif (decide (p20>0)) then (decide (y39.Av≥y35.Av)) else false))==false)=true then FN a0.Ad y35.Av else some default).bind fun r41=>
Bp ((bif (bif (!r37) then true else (bif (decide (p20>0)) then (decide (y39.Av≥y35.Av)) else false)) then true else (decide (r41≥0)))) fun v43=>
if v43=true then
some (.inr (.inr false))
else
some (.inl (IntKind.i64.wrap (p20+1)))
else
some (.inr (.inl ()))
noncomputable def g46 (a0:Aj):Option Bool:=
(g18 a0.Ad).bind fun r1=>
(if ((bif (bif (!r1) then true else (decide ((a0.Ab.length:Int)>40))) then true else (decide ((a0.Ah.length:Int)>80)))==false)=true then g85 a0.Ah a0.Ad.next else some default).bind fun r3=>
Bp ((bif (bif (bif (!r1) then true else (decide ((a0.Ab.length:Int)>40))) then true else (decide ((a0.Ah.length:Int)>80))) then true else (!r3))) fun v5=>
if v5=true then
some false
else
(Bz (aD a0) 0).bind fun r46=>
(match r46 with
| .inl ()=>
(g93 a0).bind fun r48=>
some (r48==0)
| .inr q=>some q)
noncomputable def Qo (a0:Ak) (s:Int):Option ((Int)⊕(Unit⊕Bool)):=
match s with
| p10=>
if (decide (p10<(a0.Ce.length:Int)))=true then
(Cq a0.Ce p10).bind fun y19=>
(pC y19 0 2).bind fun r21=>
if (!r21)=true then
some (.inr (.inr false))
else
some (.inl (IntKind.i64.wrap (p10+1)))
else
some (.inr (.inl ()))
noncomputable def g100 (a0:Ak):Option Bool:=
(if ((decide ((a0.Ce.length:Int)>4096))==false)=true then pC a0.stop 0 2 else some default).bind fun r1=>
if (bif (decide ((a0.Ce.length:Int)>4096)) then true else (!r1))=true then
some false
else
(Bz (Qo a0) 0).bind fun r24=>
(match r24 with
| .inl ()=>
some true
| .inr q=>some q)
noncomputable def jC (a0:Al):Option Al:=
if (([]:List Aa).length+a0.Ae.length)*32≤140737488355328 then
some (Al.mk a0.clock a0.next (([]:List Aa)++a0.Ae))
else none
noncomputable def g74 (a0:Al) (a1:Int):Option (Al×Int):=
(FN a0 a1).bind fun r1=>
if (decide (r1<0))=true then
some (a0,5)
else
(jC a0).bind fun r4=>
(Cq r4.Ae r1).bind fun y6=>
(r4.Ae[r1.toNat]?).bind fun y8=>
some ((Al.mk r4.clock r4.next (r4.Ae.set r1.toNat (Aa.mk y8.id y8.Bl y8.cap true))),0)
noncomputable def g53 (a0:Int) (a1:Int):Option Int:=
if (decide (a0>(IntKind.i64.wrap (9223372036854775807-a1))))=true then
some 9223372036854775807
else
some (IntKind.i64.wrap (a0+a1))
noncomputable def g79 (a0:Al) (a1:Int) (a2:Int):Option (Al×Int):=
(FN a0 a1).bind fun r1=>
if (decide (a2<1))=true then
some (a0,4)
else
if (decide (r1<0))=true then
some (a0,5)
else
(Cq a0.Ae r1).bind fun y5=>
if y5.Ck=true then
some (a0,13)
else
(jC a0).bind fun r8=>
(Cq r8.Ae r1).bind fun y10=>
(r8.Ae[r1.toNat]?).bind fun y12=>
(g53 a0.clock a2).bind fun r14=>
some ((Al.mk r8.clock r8.next (r8.Ae.set r1.toNat (Aa.mk y12.id (if r14<y12.cap then r14 else y12.cap) y12.cap y12.Ck))),0)
noncomputable def Vr (p103:Int) (p132:Int):Option ((Int×Int)⊕(Int)):=
some (.inl (p132,(IntKind.i64.wrap (p103+1))))
noncomputable def aG (a0:Al) (a1:Int) (p45:List Aa) (s:Int×Int):Option ((Int×Int)⊕(Int)):=
match s with
| (p102,p103)=>
if (decide (p103<(p45.length:Int)))=true then
(Cq p45 p103).bind fun y134=>
(p45[p103.toNat]?).bind fun y136=>
(if (((bif (!y136.Ck) then (decide (y136.Bl≤(if a1>a0.clock then a1 else a0.clock))) else false)==true)&&((decide (p102<0))==false))=true then Cq p45 p102 else some default).bind fun y138=>
(if (((bif (!y136.Ck) then (decide (y136.Bl≤(if a1>a0.clock then a1 else a0.clock))) else false)==true)&&((decide (p102<0))==false))=true then p45[p102.toNat]? else some default).bind fun y140=>
Bp ((bif (bif (!y136.Ck) then (decide (y136.Bl≤(if a1>a0.clock then a1 else a0.clock))) else false) then (bif (decide (p102<0)) then true else (decide (y136.Bl<y140.Bl))) else false)) fun v142=>
if v142=true then
Vr p103 p103
else
Vr p103 p102
else
some (.inr p102)
noncomputable def fY (a0:Al) (a1:Int) (r1:Al) (s:(List Int)×(List Aa)):Option (((List Int)×(List Aa))⊕(Al×(List Int))):=
match s with
| (p44,p45)=>
(Bz (aG a0 a1 p45) ((-1),0)).bind fun r145=>
(match r145 with
| p119=>
if (decide (p119<0))=true then
some (.inr ((Al.mk (if a1>a0.clock then a1 else a0.clock) r1.next p45),p44))
else
(Cq p45 p119).bind fun y148=>
(p45[p119.toNat]?).bind fun y150=>
(Cq (p45.set p119.toNat (Aa.mk y150.id y150.Bl y150.cap true)) p119).bind fun y152=>
((p45.set p119.toNat (Aa.mk y150.id y150.Bl y150.cap true))[p119.toNat]?).bind fun y154=>
if (p44.length+([y154.id]:List Int).length)*8≤140737488355328 then
some (.inl ((p44++([y154.id]:List Int)),(p45.set p119.toNat (Aa.mk y150.id y150.Bl y150.cap true))))
else none)
noncomputable def g81 (a0:Al) (a1:Int):Option (Al×(List Int)):=
(jC a0).bind fun r1=>
(Bz (fY a0 a1 r1) (([]:List Int),r1.Ae)).bind fun r157=>
(match r157 with
| q=>some q)
noncomputable def cN (a0:Aj):Option Aj:=
(jC a0.Ad).bind fun r1=>
if (([]:List Ai).length+a0.Ab.length)*16≤140737488355328 then
if (([]:List Int).length+a0.Ah.length)*8≤140737488355328 then
some (Aj.mk r1 (([]:List Ai)++a0.Ab) (([]:List Int)++a0.Ah) a0.Am)
else none
else none
noncomputable def g70 (a0:Al) (a1:Int) (a2:Int):Option (Al×Int×Int):=
if (bif (decide (a1<1)) then true else (decide (a2<a1)))=true then
some (a0,0,4)
else
if (a0.clock==9223372036854775807)=true then
some (a0,0,11)
else
Bp ((bif ((a0.Ae.length:Int)==40) then true else (a0.next==1000000))) fun v3=>
if v3=true then
some (a0,0,9)
else
(jC a0).bind fun r6=>
(g53 a0.clock a1).bind fun r8=>
(g53 a0.clock a2).bind fun r10=>
if (r6.Ae.length+([(Aa.mk a0.next r8 r10 false)]:List Aa).length)*32≤140737488355328 then
some ((Al.mk r6.clock (IntKind.i64.wrap (r6.next+1)) (r6.Ae++([(Aa.mk a0.next r8 r10 false)]:List Aa))),a0.next,0)
else none
noncomputable def Vs (a0:List Int) (a1:Int) (s:(List Int)×Int):Option (((List Int)×Int)⊕((List Int))):=
match s with
| (p10,p11)=>
(if ((decide (p11<(a0.length:Int)))==true)=true then Cq a0 p11 else some default).bind fun y23=>
Bp ((bif (decide (p11<(a0.length:Int))) then (decide (y23<a1)) else false)) fun v25=>
if v25=true then
(Cq a0 p11).bind fun y28=>
if (p10.length+([y28]:List Int).length)*8≤140737488355328 then
some (.inl ((p10++([y28]:List Int)),(IntKind.i64.wrap (p11+1))))
else none
else
some (.inr p10)
noncomputable def aK (a0:List Int) (a3:Int) (p35:List Int) (p41:Int):Option ((List Int)×Int):=
(cK a0 p41 (a0.length:Int)).bind fun s42=>
if (p35.length+s42.length)*8≤140737488355328 then
if (a3==2)=true then
some (p35++s42,15)
else
some (p35++s42,0)
else none
noncomputable def aJ (a0:List Int) (a1:Int) (a3:Int) (p22:List Int) (p35:List Int):Option ((List Int)×Int):=
(if ((decide ((p22.length:Int)<(a0.length:Int)))==true)=true then Cq a0 (p22.length:Int) else some default).bind fun y36=>
Bp ((bif (decide ((p22.length:Int)<(a0.length:Int))) then (y36==a1) else false)) fun v38=>
if v38=true then
aK a0 a3 p35 (IntKind.i64.wrap ((p22.length:Int)+1))
else
aK a0 a3 p35 (p22.length:Int)
noncomputable def g86 (a0:List Int) (a1:Int) (a2:Bool) (a3:Int):Option ((List Int)×Int):=
if (a3==1)=true then
some (a0,13)
else
(Bz (Vs a0 a1) (([]:List Int),0)).bind fun r31=>
(match r31 with
| p22=>
if a2=true then
if (p22.length+([a1]:List Int).length)*8≤140737488355328 then
aJ a0 a1 a3 p22 (p22++([a1]:List Int))
else none
else
aJ a0 a1 a3 p22 p22)
noncomputable def Qr  (s:Int×(List Ai)):Option ((Int×(List Ai))⊕((List Ai))):=
match s with
| (p8,p9)=>
if (decide (p8<(p9.length:Int)))=true then
(Cq p9 p8).bind fun y19=>
(p9[p8.toNat]?).bind fun y21=>
some (.inl ((IntKind.i64.wrap (p8+1)),(p9.set p8.toNat (Ai.mk y21.Av true))))
else
some (.inr p9)
noncomputable def fJ (a0:Aj):Option Aj:=
(cN a0).bind fun r1=>
(Bz (Qr) (0,r1.Ab)).bind fun r23=>
(match r23 with
| p17=>
some (Aj.mk r1.Ad p17 r1.Ah true))
noncomputable def lW (a0:Ak) (a1:Int):Option Int:=
if (decide (a1<(a0.Ce.length:Int)))=true then
(Cq a0.Ce a1).bind fun y2=>
some y2
else
some 0
noncomputable def Kd (a0:Aj) (a1:Ak) (r1:Al×Int×Int) (p4:Int):Option (Aj×As):=
if (p4 != 0)=true then
some (a0,(As.mk p4 0))
else
(cN a0).bind fun r6=>
if (r6.Ab.length+([(Ai.mk r1.2.1 false)]:List Ai).length)*16≤140737488355328 then
if (a1.stop==1)=true then
(fJ (Aj.mk (Al.mk r6.Ad.clock r1.1.next r6.Ad.Ae) (r6.Ab++([(Ai.mk r1.2.1 false)]:List Ai)) r6.Ah r6.Am)).bind fun r10=>
some (r10,(As.mk 15 0))
else
(lW a1 0).bind fun r12=>
(g86 r6.Ah r1.2.1 true r12).bind fun r14=>
if (a1.stop==2)=true then
(fJ (Aj.mk (Al.mk r6.Ad.clock r1.1.next r6.Ad.Ae) (r6.Ab++([(Ai.mk r1.2.1 false)]:List Ai)) r14.1 r6.Am)).bind fun r17=>
some (r17,(As.mk 15 0))
else
if (r14.2 != 0)=true then
(Cq (r6.Ab++([(Ai.mk r1.2.1 false)]:List Ai)) (IntKind.i64.wrap (((r6.Ab++([(Ai.mk r1.2.1 false)]:List Ai)).length:Int)-1))).bind fun y20=>
((r6.Ab++([(Ai.mk r1.2.1 false)]:List Ai))[(IntKind.i64.wrap (((r6.Ab++([(Ai.mk r1.2.1 false)]:List Ai)).length:Int)-1)).toNat]?).bind fun y22=>
some ((Aj.mk (Al.mk r6.Ad.clock r1.1.next r6.Ad.Ae) ((r6.Ab++([(Ai.mk r1.2.1 false)]:List Ai)).set ((IntKind.i64.wrap (((r6.Ab++([(Ai.mk r1.2.1 false)]:List Ai)).length:Int)-1)).toNat) (Ai.mk y22.Av true)) r14.1 r6.Am),(As.mk r14.2 0))
else
(cK (r6.Ab++([(Ai.mk r1.2.1 false)]:List Ai)) 0 (IntKind.i64.wrap (((r6.Ab++([(Ai.mk r1.2.1 false)]:List Ai)).length:Int)-1))).bind fun s24=>
some ((Aj.mk r1.1 s24 r14.1 r6.Am),(As.mk 0 r1.2.1))
else none
noncomputable def g132 (a0:Aj) (a1:Ak):Option (Aj×As):=
(g70 a0.Ad a1.ttl a1.El).bind fun r1=>
if (bif (r1.2.2==0) then ((a0.Ab.length:Int)==40) else false)=true then
Kd a0 a1 r1 9
else
Kd a0 a1 r1 r1.2.2
noncomputable def g76 (a0:Al) (a1:Int):Option (Al×Int):=
(FN a0 a1).bind fun r1=>
if (decide (r1<0))=true then
some (a0,5)
else
(Cq a0.Ae r1).bind fun y4=>
if (!y4.Ck)=true then
some (a0,13)
else
(cK a0.Ae 0 r1).bind fun s7=>
(cK a0.Ae (IntKind.i64.wrap (r1+1)) (a0.Ae.length:Int)).bind fun s9=>
if (([]:List Aa).length+s7.length)*32≤140737488355328 then
if ((([]:List Aa)++s7).length+s9.length)*32≤140737488355328 then
some ((Al.mk a0.clock a0.next ((([]:List Aa)++s7)++s9)),0)
else none
else none
noncomputable def Yb (p10:Int) (p29:List Ai):Option (((List Ai)×Int)⊕((List Ai))):=
some (.inl (p29,(IntKind.i64.wrap (p10+1))))
noncomputable def Qx (a0:List Ai) (a1:Int) (s:(List Ai)×Int):Option (((List Ai)×Int)⊕((List Ai))):=
match s with
| (p9,p10)=>
if (decide (p10<(a0.length:Int)))=true then
(Cq a0 p10).bind fun y31=>
if (y31.Av != a1)=true then
(Cq a0 p10).bind fun y34=>
if (p9.length+([y34]:List Ai).length)*16≤140737488355328 then
Yb p10 (p9++([y34]:List Ai))
else none
else
Yb p10 p9
else
some (.inr p9)
noncomputable def g146 (a0:List Ai) (a1:Int):Option (List Ai):=
(Bz (Qx a0 a1) (([]:List Ai),0)).bind fun r37=>
(match r37 with
| p21=>
some p21)
noncomputable def To (p28:Int) (p87:Int) (p88:Int) (p89:Int) (p90:List Aa) (p91:List Int):Option ((Int×Int×Int×Int×(List Aa)×(List Int))⊕((Int×Int×Int×(List Aa)×(List Int))⊕Aj)):=
some (.inl (p87,(IntKind.i64.wrap (p28+1)),p88,p89,p90,p91))
noncomputable def Qs (a1:Ak) (r1:Aj) (p27:Int) (p28:Int) (r100:(List Int)×Int) (p105:Int) (p106:Int) (p107:List Aa):Option ((Int×Int×Int×Int×(List Aa)×(List Int))⊕((Int×Int×Int×(List Aa)×(List Int))⊕Aj)):=
if (a1.stop==2)=true then
(fJ (Aj.mk (Al.mk p105 p106 p107) r1.Ab r100.1 r1.Am)).bind fun r109=>
some (.inr (.inr r109))
else
To p28 (IntKind.i64.wrap (p27+1)) p105 p106 p107 r100.1
noncomputable def Lo (a0:Aj) (a1:Ak) (r1:Aj) (s:Int×Int×Int×Int×(List Aa)×(List Int)):Option ((Int×Int×Int×Int×(List Aa)×(List Int))⊕((Int×Int×Int×(List Aa)×(List Int))⊕Aj)):=
match s with
| (p27,p28,p29,p30,p31,p32)=>
if (decide (p28<(a0.Ad.Ae.length:Int)))=true then
(Cq a0.Ad.Ae p28).bind fun y93=>
(Cq a0.Ad.Ae p28).bind fun y95=>
if (!y95.Ck)=true then
To p28 p27 p29 p30 p31 p32
else
(lW a1 p27).bind fun r98=>
(g86 p32 y93.id false r98).bind fun r100=>
if (r100.2==0)=true then
(g76 (Al.mk p29 p30 p31) y93.id).bind fun r113=>
Qs a1 r1 p27 p28 r100 r113.1.clock r113.1.next r113.1.Ae
else
Qs a1 r1 p27 p28 r100 p29 p30 p31
else
some (.inr (.inl (p27,p29,p30,p31,p32)))
noncomputable def Tp (p140:Int) (p190:Int) (p191:List Ai) (p192:List Int):Option ((Int×Int×(List Ai)×(List Int))⊕(((List Ai)×(List Int))⊕Aj)):=
some (.inl (p190,(IntKind.i64.wrap (p140+1)),p191,p192))
noncomputable def Qt (a1:Ak) (r1:Aj) (p64:Int) (p65:Int) (p66:List Aa) (p139:Int) (p140:Int) (r201:(List Int)×Int) (p208:List Ai):Option ((Int×Int×(List Ai)×(List Int))⊕(((List Ai)×(List Int))⊕Aj)):=
if (a1.stop==2)=true then
(fJ (Aj.mk (Al.mk p64 p65 p66) p208 r201.1 r1.Am)).bind fun r210=>
some (.inr (.inr r210))
else
Tp p140 (IntKind.i64.wrap (p139+1)) p208 r201.1
noncomputable def Jl (a0:Aj) (a1:Ak) (r1:Aj) (p64:Int) (p65:Int) (p66:List Aa) (s:Int×Int×(List Ai)×(List Int)):Option ((Int×Int×(List Ai)×(List Int))⊕(((List Ai)×(List Int))⊕Aj)):=
match s with
| (p139,p140,p141,p142)=>
if (decide (p140<(a0.Ab.length:Int)))=true then
(Cq a0.Ab p140).bind fun y194=>
if (!y194.Ol)=true then
Tp p140 p139 p141 p142
else
(Cq a0.Ab p140).bind fun y197=>
(lW a1 p139).bind fun r199=>
(g86 p142 y197.Av false r199).bind fun r201=>
if (r201.2==0)=true then
(Cq a0.Ab p140).bind fun y214=>
(g146 p141 y214.Av).bind fun r216=>
Qt a1 r1 p64 p65 p66 p139 p140 r201 r216
else
Qt a1 r1 p64 p65 p66 p139 p140 r201 p141
else
some (.inr (.inl (p141,p142)))
noncomputable def lR (a0:Aj) (a1:Ak):Option Aj:=
(cN a0).bind fun r1=>
(Bz (Lo a0 a1 r1) (0,0,r1.Ad.clock,r1.Ad.next,r1.Ad.Ae,r1.Ah)).bind fun r115=>
(match r115 with
| .inl (p63,p64,p65,p66,p67)=>
(Bz (Jl a0 a1 r1 p64 p65 p66) (p63,0,r1.Ab,p67)).bind fun r218=>
(match r218 with
| .inl (p169,p170)=>
some (Aj.mk (Al.mk p64 p65 p66) p169 p170 r1.Am)
| .inr q=>some q)
| .inr q=>some q)
noncomputable def Hu (a0:Aj) (p27:Int) (p28:Int) (p29:Int) (p30:List Aa) (p31:List Ai) (p32:List Int) (p33:Bool):Option (Aj×As):=
if (p27 != 0)=true then
some (a0,(As.mk p27 0))
else
some ((Aj.mk (Al.mk p28 p29 p30) p31 p32 p33),(As.mk 0 0))
noncomputable def g101 (a0:Aj) (a1:Ak):Option (Aj×As):=
(pC a1.kind 1 6).bind fun r1=>
if (!r1)=true then
some (a0,(As.mk 16 0))
else
if (bif a0.Am then (a1.kind != 6) else false)=true then
some (a0,(As.mk 14 0))
else
(cN a0).bind fun r5=>
if (a1.kind==1)=true then
(g132 a0 a1).bind fun r37=>
some (r37.1,r37.2)
else
if (a1.kind==2)=true then
(g79 a0.Ad a1.id a1.ttl).bind fun r40=>
Hu a0 r40.2 r40.1.clock r40.1.next r40.1.Ae r5.Ab r5.Ah r5.Am
else
if (a1.kind==3)=true then
(g74 a0.Ad a1.id).bind fun r43=>
Hu a0 r43.2 r43.1.clock r43.1.next r43.1.Ae r5.Ab r5.Ah r5.Am
else
if (a1.kind==4)=true then
(g81 a0.Ad a1.clock).bind fun r46=>
if (a1.stop==1)=true then
(fJ (Aj.mk r46.1 r5.Ab r5.Ah r5.Am)).bind fun r49=>
some (r49,(As.mk 15 0))
else
(lR (Aj.mk r46.1 r5.Ab r5.Ah r5.Am) a1).bind fun r51=>
if (bif r51.Am then (!r5.Am) else false)=true then
some (r51,(As.mk 15 0))
else
Hu a0 0 r51.Ad.clock r51.Ad.next r51.Ad.Ae r51.Ab r51.Ah r51.Am
else
if (a1.kind==5)=true then
Hu a0 0 r5.Ad.clock r5.Ad.next r5.Ad.Ae r5.Ab r5.Ah true
else
if (a1.kind==6)=true then
Hu a0 0 r5.Ad.clock r5.Ad.next r5.Ad.Ae r5.Ab r5.Ah false
else
Hu a0 0 r5.Ad.clock r5.Ad.next r5.Ad.Ae r5.Ab r5.Ah r5.Am
noncomputable def rL (a0:Aj) (a1:Ak):Option (Aj×As×Int):=
(g46 a0).bind fun r1=>
(if ((!r1)==false)=true then g100 a1 else some default).bind fun r3=>
if (bif (!r1) then true else (!r3))=true then
some ((Aj.mk (Al.mk 0 0 ([]:List Aa)) ([]:List Ai) ([]:List Int) false),(As.mk 0 0),1)
else
(g101 a0 a1).bind fun r6=>
(cN r6.1).bind fun r8=>
some (r8,r6.2,0)
noncomputable def Qy (r2:(List Ak)) (s:Int×Int×Int×(List Aa)×(List Ai)×(List Int)×Bool):Option ((Int×Int×Int×(List Aa)×(List Ai)×(List Int)×Bool)⊕((Int×Int×(List Aa)×(List Ai)×(List Int)×Bool)⊕Bool)):=
match s with
| (p33,p34,p35,p36,p37,p38,p39)=>
if (decide (p33<(r2.length:Int)))=true then
(Cq r2 p33).bind fun y83=>
(r2[p33.toNat]?).bind fun y85=>
(rK (Aj.mk (Al.mk p34 p35 p36) p37 p38 p39) y85).bind fun r87=>
(Cq r2 p33).bind fun y90=>
(r2[p33.toNat]?).bind fun y92=>
(rL (Aj.mk (Al.mk p34 p35 p36) p37 p38 p39) y92).bind fun r94=>
(g439 r87.1).bind fun r97=>
(if ((bif (r87.2.2 != 0) then true else (!((r87.2.1.code_==r94.2.1.code_)&&((r87.2.1.id==r94.2.1.id)&&true))))==false)=true then jE r87.1 r94.1 else some default).bind fun r99=>
(if ((bif (bif (bif (bif (r87.2.2 != 0) then true else (!((r87.2.1.code_==r94.2.1.code_)&&((r87.2.1.id==r94.2.1.id)&&true)))) then true else (!r99)) then true else (r97.1 != 0)) then true else (r97.2 != 0))==false)=true then g48 r87.1 else some default).bind fun r101=>
Bp ((bif (bif (bif (bif (bif (r87.2.2 != 0) then true else (!((r87.2.1.code_==r94.2.1.code_)&&((r87.2.1.id==r94.2.1.id)&&true)))) then true else (!r99)) then true else (r97.1 != 0)) then true else (r97.2 != 0)) then true else (!r101))) fun v103=>
if v103=true then
some (.inr (.inr false))
else
(if ((bif (bif (r87.2.1.code_ != 0) then (r87.2.1.code_ != 15) else false) then (r87.2.1.code_ != 13) else false)==true)=true then jE r87.1 (Aj.mk (Al.mk p34 p35 p36) p37 p38 p39) else some default).bind fun r106=>
Bp ((bif (bif (bif (r87.2.1.code_ != 0) then (r87.2.1.code_ != 15) else false) then (r87.2.1.code_ != 13) else false) then (!r106) else false)) fun v108=>
if v108=true then
some (.inr (.inr false))
else
some (.inl ((IntKind.i64.wrap (p33+1)),r87.1.Ad.clock,r87.1.Ad.next,r87.1.Ad.Ae,r87.1.Ab,r87.1.Ah,r87.1.Am))
else
some (.inr (.inl (p34,p35,p36,p37,p38,p39)))
noncomputable def g435 (a0:List UInt8):Option Bool:=
if (decide ((a0.length:Int)>1048576))=true then
some true
else
(g51 a0).bind fun r2=>
(Bz (Qy r2) (0,0,1,([]:List Aa),([]:List Ai),([]:List Int),false)).bind fun r111=>
(match r111 with
| .inl (p76,p77,p78,p79,p80,p81)=>
(g438 r2).bind fun r113=>
(if ((r113.2.2==0)==true)=true then jE r113.1 (Aj.mk (Al.mk p76 p77 p78) p79 p80 p81) else some default).bind fun r115=>
Bp ((bif (bif (r113.2.2==0) then r115 else false) then ((r113.2.1.length:Int)==(r2.length:Int)) else false)) fun v117=>
some v117
| .inr q=>some q)
end Go.Ev
