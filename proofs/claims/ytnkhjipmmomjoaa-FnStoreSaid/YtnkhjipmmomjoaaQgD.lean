/- Functions with the answers of the program's, written by a program of ours. -/
import Derived.Test.YtnkhjipmmomjoaaQvG
set_option linter.all false
set_option maxHeartbeats 4000000
set_option linter.unusedVariables false
set_option maxRecDepth 100000
namespace Go.Ev
structure Bp where
  code_:List UInt8
  at_:Int
  Fp:Int
  deriving Inhabited,DecidableEq
def UG (x:Bp):Prop:=(UH Up) x.code_∧TN x.at_∧TN x.Fp
def Az (x:Bp):List V:=[.lst 1 (x.code_.map Bo),.int .i64 x.at_,.int .i64 x.Fp]
structure As where
  at_:Int
  data:List UInt8
  deriving Inhabited,DecidableEq
def gL (x:As):Prop:=TN x.at_∧(UH Up) x.data
def Ay (x:As):List V:=[.int .i64 x.at_,.lst 1 (x.data.map Bo)]
structure Av where
  held:List UInt8
  Aq:List As
  deriving Inhabited,DecidableEq
def UF (x:Av):Prop:=(UH Up) x.held∧(UH gL) x.Aq
def Ap (x:Av):List V:=[.lst 1 (x.held.map Bo),.lst 2 (x.Aq.map Ay)]
structure Al where
  key:List UInt8
  value:List UInt8
  deriving Inhabited,DecidableEq
def YR (x:Al):Prop:=aA x.key∧aA x.value
def Ao (x:Al):List V:=[.str x.key,.str x.value]
structure Ae where
  key:List UInt8
  value:List UInt8
  Dm:Bool
  deriving Inhabited,DecidableEq
def UE (x:Ae):Prop:=aA x.key∧aA x.value∧Up x.Dm
def Ad (x:Ae):List V:=[.str x.key,.str x.value,.bool x.Dm]
noncomputable def So (a0:List Al) (a1:List Al) (s:Int):Option ((Int)⊕(Unit⊕Bool)):=
match s with
| p8=>
if (decide (p8<(a0.length:Int)))=true then
(Ew a0 p8).bind fun y17=>
(Ew a1 p8).bind fun y19=>
if (!((y17.key==y19.key)&&((y17.value==y19.value)&&true)))=true then
some (.inr (.inr false))
else
some (.inl (IntKind.i64.wrap (p8+1)))
else
some (.inr (.inl ()))
noncomputable def mX (a0:List Al) (a1:List Al):Option Bool:=
if ((a0.length:Int) != (a1.length:Int))=true then
some false
else
(Ch (So a0 a1) 0).bind fun r22=>
(match r22 with
| .inl ()=>
some true
| .inr q=>some q)
noncomputable def g83 (a0:List UInt8):Option Bp:=
some (Bp.mk a0 0 (((a0.length:Int)).tmod 1000))
noncomputable def bJ (a0:Bp):Option (Int×Bp):=
if (decide ((IntKind.i64.wrap (a0.at_+1))≤(a0.code_.length:Int)))=true then
(Ew a0.code_ (IntKind.i64.wrap ((IntKind.i64.wrap (a0.at_+1))-1))).bind fun y2=>
Bn (((IntKind.i64.wrap ((IntKind.i64.wrap ((IntKind.i64.wrap (a0.Fp*31))+(IntKind.i64.wrap ((y2).toNat:Int))))+7))).tmod 2147483648) fun v4=>
(Ew a0.code_ (IntKind.i64.wrap ((IntKind.i64.wrap (a0.at_+1))-1))).bind fun y6=>
some (IntKind.i64.wrap ((y6).toNat:Int),(Bp.mk a0.code_ (IntKind.i64.wrap (a0.at_+1)) v4))
else
if (decide ((IntKind.i64.wrap (a0.at_+1))>3000))=true then
some (0,(Bp.mk a0.code_ (IntKind.i64.wrap (a0.at_+1)) a0.Fp))
else
Bn (((IntKind.i64.wrap ((IntKind.i64.wrap (a0.Fp*1103515245))+12345))).tmod 2147483648) fun v9=>
some (((IntKind.i64.wrap ((v9).tdiv 65536))).tmod 256,(Bp.mk a0.code_ (IntKind.i64.wrap (a0.at_+1)) v9))
noncomputable def bI (a0:Bp) (a1:Int):Option (Int×Bp):=
if (decide (a1≤1))=true then
some (0,a0)
else
if (decide (a1≤256))=true then
(bJ a0).bind fun r3=>
if a1≠0 then
some ((r3.1).tmod a1,r3.2)
else none
else
(bJ a0).bind fun r6=>
(bJ r6.2).bind fun r8=>
(bJ r8.2).bind fun r10=>
if a1≠0 then
Bn (((IntKind.i64.wrap ((IntKind.i64.wrap ((IntKind.i64.wrap (r6.1*65536))+(IntKind.i64.wrap (r8.1*256))))+r10.1))).tmod a1) fun v13=>
some (v13,r10.2)
else none
noncomputable def KS (a0:Bp) (a1:Int):Option Int:=
Bn (if a1<(IntKind.i64.wrap (1+(IntKind.i64.wrap (((a0.code_.length:Int)).tdiv 12)))) then a1 else (IntKind.i64.wrap (1+(IntKind.i64.wrap (((a0.code_.length:Int)).tdiv 12))))) fun v1=>
some v1
noncomputable def KU (a0:Bp) (a1:Int):Option (Bool×Bp):=
(bI a0 a1).bind fun r1=>
some ((r1.1==(IntKind.i64.wrap (a1-1))),r1.2)
noncomputable def bR (a0:Bp) (a1:List (List UInt8)):Option ((List UInt8)×Bp):=
if ((a1.length:Int)==0)=true then
some (([]:List UInt8),a0)
else
(bI a0 (a1.length:Int)).bind fun r2=>
(Ew a1 r2.1).bind fun y4=>
some (y4,r2.2)
noncomputable def Xr (r1:(List UInt8)×Bp) (r5:Bool×Bp) (p8:List UInt8) (p9:Bool):Option (Ae×Bp):=
some ((Ae.mk r1.1 p8 p9),r5.2)
noncomputable def NG (a0:Bp):Option (Ae×Bp):=
(bR a0 ([([97]:List UInt8),([98]:List UInt8),([108,101,97,115,101,47,49]:List UInt8),([108,101,97,115,101,47,50]:List UInt8),([114,111,108,101,47,120]:List UInt8),([122]:List UInt8)]:List (List UInt8))).bind fun r1=>
(bR r1.2 ([([]:List UInt8),([49]:List UInt8),([116,119,111]:List UInt8),([116,104,114,101,101]:List UInt8)]:List (List UInt8))).bind fun r3=>
(KU r3.2 4).bind fun r5=>
if r5.1=true then
Xr r1 r5 ([]:List UInt8) true
else
Xr r1 r5 r3.1 false
noncomputable def Sv  (s:(List Ae)×Int×(List UInt8)×Int×Int):Option (((List Ae)×Int×(List UInt8)×Int×Int)⊕((List Ae)×(List UInt8)×Int×Int)):=
match s with
| (p7,p8,p9,p10,p11)=>
if (decide (p8>0))=true then
(NG (Bp.mk p9 p10 p11)).bind fun r26=>
if (p7.length+([r26.1]:List Ae).length)*40≤140737488355328 then
some (.inl ((p7++([r26.1]:List Ae)),(IntKind.i64.wrap (p8-1)),r26.2.code_,r26.2.at_,r26.2.Fp))
else none
else
some (.inr (p7,p9,p10,p11))
noncomputable def MS (a0:Bp):Option ((List Ae)×Bp):=
(bI a0 5).bind fun r1=>
(Ch (Sv) (([]:List Ae),r1.1,r1.2.code_,r1.2.at_,r1.2.Fp)).bind fun r29=>
(match r29 with
| (p21,p22,p23,p24)=>
some (p21,(Bp.mk p22 p23 p24)))
noncomputable def Su  (s:(List (List Ae))×Int×(List UInt8)×Int×Int):Option (((List (List Ae))×Int×(List UInt8)×Int×Int)⊕((List (List Ae)))):=
match s with
| (p11,p12,p13,p14,p15)=>
if (decide (p12>0))=true then
(MS (Bp.mk p13 p14 p15)).bind fun r27=>
if (p11.length+([r27.1]:List (List Ae)).length)*24≤140737488355328 then
some (.inl ((p11++([r27.1]:List (List Ae))),(IntKind.i64.wrap (p12-1)),r27.2.code_,r27.2.at_,r27.2.Fp))
else none
else
some (.inr p11)
noncomputable def MH (a0:List UInt8):Option (List (List Ae)):=
(g83 a0).bind fun r1=>
(KS r1 5).bind fun r3=>
(bI r1 (IntKind.i64.wrap (r3+2))).bind fun r5=>
(Ch (Su) (([]:List (List Ae)),r5.1,r5.2.code_,r5.2.at_,r5.2.Fp)).bind fun r30=>
(match r30 with
| p25=>
some p25)
noncomputable def fQ (a0:List Ae):Option Bool:=
some (decide ((a0.length:Int)≤4096))
noncomputable def dO (a0:List Ae) (is1:Ae→Option Bool) (s:Int):Option ((Int)⊕(Unit⊕Int)):=
match s with
| p7=>
if (decide (p7<(a0.length:Int)))=true then
(Ew a0 p7).bind fun y16=>
(is1 y16).bind fun r18=>
if r18=true then
some (.inr (.inr p7))
else
some (.inl (IntKind.i64.wrap (p7+1)))
else
some (.inr (.inl ()))
noncomputable def TF (a0:List Ae) (is1:Ae→Option Bool):Option Int:=
(Ch (dO a0 is1) 0).bind fun r21=>
(match r21 with
| .inl ()=>
some (-1)
| .inr q=>some q)
noncomputable def NT (a0:List Ae) (is1:Ae→Option Bool):Option Bool:=
(TF a0 is1).bind fun r1=>
some (decide (r1≥0))
noncomputable def NV (a0:Ae) (is1:Ae→Option Bool):Option Bool:=
(is1 a0).bind fun r1=>
some (!r1)
noncomputable def NI (a0:List Ae) (is1:Ae→Option Bool):Option Bool:=
(NT a0 (fun z425_0=>NV z425_0 is1)).bind fun r1=>
some (!r1)
noncomputable def iC (a0:Int) (a1:Int) (a2:Int):Option Bool:=
some (bif (decide (a1≤a0)) then (decide (a0≤a2)) else false)
noncomputable def bO (a0:List UInt8):Option Bool:=
(iC (a0.length:Int) 1 60).bind fun r1=>
some r1
noncomputable def bP (a0:Ae):Option Bool:=
(bO a0.key).bind fun r1=>
Bn ((bif (bif r1 then (decide ((a0.value.length:Int)≤400)) else false) then (bif (!a0.Dm) then true else (a0.value==([]:List UInt8))) else false)) fun v3=>
some v3
noncomputable def fR (a0:List Ae):Option Bool:=
(if ((decide ((a0.length:Int)≤30))==true)=true then NI a0 (fun z414_0=>bP z414_0) else some default).bind fun r1=>
some (bif (decide ((a0.length:Int)≤30)) then r1 else false)
noncomputable def Mw (a0:Int) (a1:Int) (s:(List UInt8)×Int):Option (((List UInt8)×Int)⊕((List UInt8))):=
match s with
| (p9,p10)=>
if (decide (p10<((List.replicate a1.toNat (0:UInt8)).length:Int)))=true then
if 0≤(IntKind.i64.wrap (8*p10)) then
(Ew p9 (IntKind.i64.wrap ((IntKind.i64.wrap (a1-1))-p10))).bind fun y22=>
(p9[(IntKind.i64.wrap ((IntKind.i64.wrap (a1-1))-p10)).toNat]?).bind fun y24=>
some (.inl ((p9.set ((IntKind.i64.wrap ((IntKind.i64.wrap (a1-1))-p10)).toNat) (b8 (Lh .i64 a0 (IntKind.i64.wrap (8*p10))))),(IntKind.i64.wrap (p10+1))))
else none
else
some (.inr p9)
noncomputable def Xk (a0:Int) (a1:Int):Option (List UInt8):=
if 0≤a1 then
if a1*1≤140737488355328 then
(Ch (Mw a0 a1) ((List.replicate a1.toNat (0:UInt8)),0)).bind fun r26=>
(match r26 with
| p19=>
some p19)
else none
else none
noncomputable def Pr (p14:List UInt8) (p15:Int) (y33:Ae) (p38:Int):Option (((List UInt8)×Int)⊕((List UInt8))):=
(Xk p38 2).bind fun r39=>
if (((p14++([b8 (y33.key.length:Int)]:List UInt8))++y33.key).length+r39.length)*1≤140737488355328 then
if ((((p14++([b8 (y33.key.length:Int)]:List UInt8))++y33.key)++r39).length+y33.value.length)*1≤140737488355328 then
Bn ((((p14++([b8 (y33.key.length:Int)]:List UInt8))++y33.key)++r39)++y33.value) fun v43=>
some (.inl (v43,(IntKind.i64.wrap (p15+1))))
else none
else none
noncomputable def Sw (a0:List Ae) (s:(List UInt8)×Int):Option (((List UInt8)×Int)⊕((List UInt8))):=
match s with
| (p14,p15)=>
if (decide (p15<(a0.length:Int)))=true then
(Ew a0 p15).bind fun y33=>
if (p14.length+([b8 (y33.key.length:Int)]:List UInt8).length)*1≤140737488355328 then
if ((p14++([b8 (y33.key.length:Int)]:List UInt8)).length+y33.key.length)*1≤140737488355328 then
if y33.Dm=true then
Pr p14 p15 y33 0
else
Pr p14 p15 y33 (IntKind.i64.wrap ((y33.value.length:Int)+1))
else none
else none
else
some (.inr p14)
noncomputable def nI (a0:List Ae):Option (List UInt8):=
(Ch (Sw a0) ([],0)).bind fun r47=>
(match r47 with
| p31=>
some p31)
noncomputable def nD (a0:List Ae):Option ((List UInt8)×Int):=
(fQ a0).bind fun r1=>
if (!r1)=true then
some ([],2)
else
(fR a0).bind fun r4=>
if (!r4)=true then
some ([],1)
else
(nI a0).bind fun r7=>
some (r7,0)
noncomputable def KV (a0:List UInt8):Option Bool:=
some (decide ((a0.length:Int)≤65536))
noncomputable def Mz (a0:List UInt8) (s:Int×Int):Option ((Int×Int)⊕(Int)):=
match s with
| (p4,p5)=>
if (decide (p5<(a0.length:Int)))=true then
(Ew a0 p5).bind fun y13=>
some (.inl ((YD .i64 (nS .i64 p4 8) (IntKind.i64.wrap ((y13).toNat:Int))),(IntKind.i64.wrap (p5+1))))
else
some (.inr p4)
noncomputable def bM (a0:List UInt8):Option Int:=
(Ch (Mz a0) (0,0)).bind fun r15=>
(match r15 with
| p11=>
some p11)
noncomputable def bS (a0:List UInt8) (a1:Int):Option ((List UInt8)×(List UInt8)×Bool):=
if (decide (a1>(a0.length:Int)))=true then
some ([],[],false)
else
(Hx a0 0 a1).bind fun s2=>
(Hx a0 a1 (a0.length:Int)).bind fun s4=>
some (s2,s4,true)
noncomputable def NK (a0:List UInt8):Option (Ae×(List UInt8)×Bool):=
(Hx a0 1 (a0.length:Int)).bind fun s1=>
(Ew a0 0).bind fun y3=>
(bS s1 (IntKind.i64.wrap ((y3).toNat:Int))).bind fun r5=>
if (!r5.2.2)=true then
some ((Ae.mk ([]:List UInt8) ([]:List UInt8) false),[],false)
else
(bS r5.2.1 2).bind fun r8=>
if (!r8.2.2)=true then
some ((Ae.mk ([]:List UInt8) ([]:List UInt8) false),[],false)
else
(bM r8.1).bind fun r11=>
(bS r8.2.1 (if 0>(IntKind.i64.wrap (r11-1)) then 0 else (IntKind.i64.wrap (r11-1)))).bind fun r13=>
some ((Ae.mk r5.1 r13.1 (r11==0)),r13.2.1,r13.2.2)
noncomputable def Sx  (s:(List UInt8)×(List Ae)):Option (((List UInt8)×(List Ae))⊕((List Ae)⊕((List Ae)×Bool))):=
match s with
| (p10,p11)=>
if (decide ((p10.length:Int)>0))=true then
(NK p10).bind fun r25=>
(if ((bif (!r25.2.2) then true else ((p11.length:Int)==30))==false)=true then bP r25.1 else some default).bind fun r27=>
Bn ((bif (bif (!r25.2.2) then true else ((p11.length:Int)==30)) then true else (!r27))) fun v29=>
if v29=true then
some (.inr (.inr ([],false)))
else
if (p11.length+([r25.1]:List Ae).length)*40≤140737488355328 then
some (.inl (r25.2.1,(p11++([r25.1]:List Ae))))
else none
else
some (.inr (.inl p11))
noncomputable def nJ (a0:List UInt8):Option ((List Ae)×Bool):=
(Ch (Sx) (a0,[])).bind fun r33=>
(match r33 with
| .inl p23=>
some (p23,true)
| .inr q=>some q)
noncomputable def MK (a0:List UInt8):Option ((List Ae)×Int):=
(KV a0).bind fun r1=>
if (!r1)=true then
some ([],2)
else
(nJ a0).bind fun r4=>
if (!r4.2)=true then
some ([],3)
else
some (r4.1,0)
noncomputable def SY (a0:List As):Option Bool:=
some (decide ((a0.length:Int)≤4096))
noncomputable def dF (a0:List As) (is1:As→Option Bool) (s:Int):Option ((Int)⊕(Unit⊕Int)):=
match s with
| p7=>
if (decide (p7<(a0.length:Int)))=true then
(Ew a0 p7).bind fun y16=>
(is1 y16).bind fun r18=>
if r18=true then
some (.inr (.inr p7))
else
some (.inl (IntKind.i64.wrap (p7+1)))
else
some (.inr (.inl ()))
noncomputable def SZ (a0:List As) (is1:As→Option Bool):Option Int:=
(Ch (dF a0 is1) 0).bind fun r21=>
(match r21 with
| .inl ()=>
some (-1)
| .inr q=>some q)
noncomputable def LT (a0:List As) (is1:As→Option Bool):Option Bool:=
(SZ a0 is1).bind fun r1=>
some (decide (r1≥0))
noncomputable def LV (a0:As) (is1:As→Option Bool):Option Bool:=
(is1 a0).bind fun r1=>
some (!r1)
noncomputable def KX (a0:List As) (is1:As→Option Bool):Option Bool:=
(LT a0 (fun z330_0=>LV z330_0 is1)).bind fun r1=>
some (!r1)
noncomputable def fP (a0:As):Option Bool:=
(iC a0.at_ 0 127).bind fun r1=>
some (bif r1 then ((a0.data.length:Int)==32) else false)
noncomputable def mW (a0:Av):Option Bool:=
(if ((bif ((((a0.held.length:Int)).tmod 32)==0) then (decide ((a0.held.length:Int)≤4096)) else false)==true)=true then SY a0.Aq else some default).bind fun r1=>
(if ((bif (bif ((((a0.held.length:Int)).tmod 32)==0) then (decide ((a0.held.length:Int)≤4096)) else false) then r1 else false)==true)=true then KX a0.Aq (fun z271_0=>fP z271_0) else some default).bind fun r3=>
Bn ((bif (bif (bif ((((a0.held.length:Int)).tmod 32)==0) then (decide ((a0.held.length:Int)≤4096)) else false) then r1 else false) then r3 else false)) fun v5=>
some v5
def Zl (a0:List UInt8):Option (List UInt8):=if ([]:List UInt8).length+a0.length≤140737488355328 then some a0 else none
noncomputable def Pl (a1:As) (p6:List UInt8):Option (List UInt8):=
(Hx p6 (IntKind.i64.wrap (32*a1.at_)) (p6.length:Int)).bind fun s7=>
Bn (ovl p6 ((IntKind.i64.wrap (32*a1.at_)).toNat) (a1.data.take s7.length)) fun v9=>
some v9
noncomputable def LL (a0:List UInt8) (a1:As):Option (List UInt8):=
Bn ((decide ((a0.length:Int)<(IntKind.i64.wrap (32*(IntKind.i64.wrap (a1.at_+1))))))) fun v1=>
if v1=true then
if 0≤(IntKind.i64.wrap ((IntKind.i64.wrap (32*(IntKind.i64.wrap (a1.at_+1))))-(a0.length:Int))) then
if ((a0.length:Int)+(IntKind.i64.wrap ((IntKind.i64.wrap (32*(IntKind.i64.wrap (a1.at_+1))))-(a0.length:Int))))*1≤140737488355328 then
Pl a1 (a0++List.replicate (IntKind.i64.wrap ((IntKind.i64.wrap (32*(IntKind.i64.wrap (a1.at_+1))))-(a0.length:Int))).toNat (0:UInt8))
else none
else none
else
Pl a1 a0
noncomputable def Pg (a0:Av) (s:(List UInt8)×Int):Option (((List UInt8)×Int)⊕((List UInt8))):=
match s with
| (p8,p9)=>
if (decide (p9<(a0.Aq.length:Int)))=true then
(Ew a0.Aq p9).bind fun y19=>
(LL p8 y19).bind fun r21=>
some (.inl (r21,(IntKind.i64.wrap (p9+1))))
else
some (.inr p8)
noncomputable def bK (a0:Av):Option (List UInt8):=
(Zl a0.held).bind fun r1=>
(Ch (Pg a0) (r1,0)).bind fun r23=>
(match r23 with
| p17=>
some p17)
noncomputable def SX (a0:Av):Option Av:=
(bK a0).bind fun r1=>
some (Av.mk r1 ([]:List As))
noncomputable def Sq (p49:Int) (p58:Int):Option ((Int×Int)⊕(Int)):=
some (.inl (p58,(IntKind.i64.wrap (p49+1))))
noncomputable def My  (s:Int×Int):Option ((Int×Int)⊕(Int)):=
match s with
| (p48,p49)=>
if (decide (p49<8))=true then
if ((Zq .u32 p48 1)==1)=true then
Sq p49 (Ks .u32 (Lh .u32 p48 1) 3988292384)
else
Sq p49 (Lh .u32 p48 1)
else
some (.inr p48)
noncomputable def Mx (a0:List UInt8) (s:Int×Int):Option ((Int×Int)⊕(Int)):=
match s with
| (p19,p20)=>
if (decide (p20<(a0.length:Int)))=true then
(Ew a0 p20).bind fun y41=>
(Ch (My) ((Ks .u32 p19 (IntKind.u32.wrap ((y41).toNat:Int))),0)).bind fun r61=>
(match r61 with
| p55=>
some (.inl (p55,(IntKind.i64.wrap (p20+1)))))
else
some (.inr p19)
noncomputable def nB (a0:List UInt8):Option Int:=
(Ch (Mx a0) (4294967295,0)).bind fun r63=>
(match r63 with
| p39=>
some (IntKind.i64.wrap (TL .u32 p39)))
noncomputable def LC (a0:List UInt8):Option (List UInt8):=
(Xk (IntKind.i64.wrap ((a0.length:Int)+1)) 2).bind fun r1=>
if (r1.length+a0.length)*1≤140737488355328 then
(nB (r1++a0)).bind fun r4=>
(Xk r4 4).bind fun r6=>
if ((r1++a0).length+r6.length)*1≤140737488355328 then
some ((r1++a0)++r6)
else none
else none
noncomputable def Hy (a0:List UInt8) (s:(List (List UInt8))×Int):Option (((List (List UInt8))×Int)⊕((List (List UInt8))×Int)):=
match s with
| (p26,p27)=>
if (decide ((IntKind.i64.wrap (p27+2))≤(a0.length:Int)))=true then
(Hx a0 p27 (IntKind.i64.wrap (p27+2))).bind fun s58=>
(bM s58).bind fun r60=>
Bn (IntKind.i64.wrap ((IntKind.i64.wrap (p27+2))+(IntKind.i64.wrap (r60-1)))) fun v62=>
(iC (IntKind.i64.wrap (r60-1)) 0 2000).bind fun r64=>
(if ((bif (!r64) then true else (decide ((IntKind.i64.wrap (v62+4))>(a0.length:Int))))==false)=true then Hx a0 p27 v62 else some default).bind fun s66=>
(if ((bif (!r64) then true else (decide ((IntKind.i64.wrap (v62+4))>(a0.length:Int))))==false)=true then Hx a0 v62 (IntKind.i64.wrap (v62+4)) else some default).bind fun s68=>
(if ((bif (!r64) then true else (decide ((IntKind.i64.wrap (v62+4))>(a0.length:Int))))==false)=true then nB s66 else some default).bind fun r70=>
(if ((bif (!r64) then true else (decide ((IntKind.i64.wrap (v62+4))>(a0.length:Int))))==false)=true then bM s68 else some default).bind fun r72=>
Bn ((bif (bif (!r64) then true else (decide ((IntKind.i64.wrap (v62+4))>(a0.length:Int)))) then true else (r70 != r72))) fun v74=>
if v74=true then
some (.inr (p26,p27))
else
(Hx a0 (IntKind.i64.wrap (p27+2)) v62).bind fun s77=>
(Zl s77).bind fun r79=>
if (p26.length+([r79]:List (List UInt8)).length)*24≤140737488355328 then
some (.inl ((p26++([r79]:List (List UInt8))),(IntKind.i64.wrap (v62+4))))
else none
else
some (.inr (p26,p27))
noncomputable def Zk (a0:List UInt8):Option ((List (List UInt8))×Int):=
(Ch (Hy a0) ([],0)).bind fun r82=>
(match r82 with
| (p55,p56)=>
some (p55,p56))
noncomputable def LO (a0:Int) (a1:Int):Option Bool:=
(iC a0 0 4096).bind fun r1=>
Bn ((bif r1 then (decide ((IntKind.i64.wrap (a0+a1))≤4096)) else false)) fun v3=>
some v3
noncomputable def Nc (a0:Av) (s:Int×(List As)):Option ((Int×(List As))⊕((List As))):=
match s with
| (p9,p10)=>
if (decide (p9<(a0.Aq.length:Int)))=true then
(Ew a0.Aq p9).bind fun y21=>
(Zl y21.data).bind fun r23=>
if (p10.length+([(As.mk y21.at_ r23)]:List As).length)*32≤140737488355328 then
some (.inl ((IntKind.i64.wrap (p9+1)),(p10++([(As.mk y21.at_ r23)]:List As))))
else none
else
some (.inr p10)
noncomputable def ME (a0:Av):Option Av:=
(Zl a0.held).bind fun r1=>
(Ch (Nc a0) (0,([]:List As))).bind fun r26=>
(match r26 with
| p19=>
some (Av.mk r1 p19))
noncomputable def Pn (a1:Int) (a2:List UInt8) (v6:Int) (p13:List UInt8) (s14:List UInt8) (s:Int×(List As)):Option ((Int×(List As))⊕((List As))):=
match s with
| (p24,p25)=>
if (decide (p24≤v6))=true then
(Hx (ovl p13 a1.toNat (a2.take s14.length)) (IntKind.i64.wrap (32*p24)) (IntKind.i64.wrap (32*(IntKind.i64.wrap (p24+1))))).bind fun s36=>
(Zl s36).bind fun r38=>
if (p25.length+([(As.mk p24 r38)]:List As).length)*32≤140737488355328 then
some (.inl ((IntKind.i64.wrap (p24+1)),(p25++([(As.mk p24 r38)]:List As))))
else none
else
some (.inr p25)
noncomputable def Pm (a1:Int) (a2:List UInt8) (r1:Av) (v6:Int) (p13:List UInt8):Option Av:=
(Hx p13 a1 (p13.length:Int)).bind fun s14=>
(Ch (Pn a1 a2 v6 p13 s14) ((IntKind.i64.wrap ((a1).tdiv 32)),r1.Aq)).bind fun r41=>
(match r41 with
| p34=>
some (Av.mk r1.held p34))
noncomputable def LQ (a0:Av) (a1:Int) (a2:List UInt8):Option Av:=
(ME a0).bind fun r1=>
if ((a2.length:Int)==0)=true then
some r1
else
(bK a0).bind fun r4=>
Bn (IntKind.i64.wrap (((IntKind.i64.wrap ((IntKind.i64.wrap (a1+(a2.length:Int)))-1))).tdiv 32)) fun v6=>
Bn ((decide ((r4.length:Int)<(IntKind.i64.wrap (32*(IntKind.i64.wrap (v6+1))))))) fun v8=>
if v8=true then
if 0≤(IntKind.i64.wrap ((IntKind.i64.wrap (32*(IntKind.i64.wrap (v6+1))))-(r4.length:Int))) then
if ((r4.length:Int)+(IntKind.i64.wrap ((IntKind.i64.wrap (32*(IntKind.i64.wrap (v6+1))))-(r4.length:Int))))*1≤140737488355328 then
Pm a1 a2 r1 v6 (r4++List.replicate (IntKind.i64.wrap ((IntKind.i64.wrap (32*(IntKind.i64.wrap (v6+1))))-(r4.length:Int))).toNat (0:UInt8))
else none
else none
else
Pm a1 a2 r1 v6 r4
noncomputable def LA (a0:Av) (a1:List UInt8):Option (Av×Int):=
if (decide ((a1.length:Int)>2000))=true then
some ((Av.mk ([]:List UInt8) ([]:List As)),4)
else
(bK a0).bind fun r2=>
(Zk r2).bind fun r4=>
(LC a1).bind fun r6=>
(LO r4.2 (r6.length:Int)).bind fun r8=>
if (!r8)=true then
some ((Av.mk ([]:List UInt8) ([]:List As)),9)
else
(LQ a0 r4.2 r6).bind fun r11=>
(SX r11).bind fun r13=>
some (r13,0)
def fV (a0:List Al):Option (List Al):=if ([]:List Al).length+a0.length≤4398046511104 then some a0 else none
noncomputable def Tc (a0:List Al) (a1:List UInt8) (is2:Al→(List UInt8)→Option Int) (s:Int×Int):Option ((Int×Int)⊕(Int)):=
match s with
| (p9,p10)=>
if (decide (p9<p10))=true then
Bn (IntKind.i64.wrap (Lh .u64 (IntKind.u64.wrap (IntKind.i64.wrap (p9+p10))) 1)) fun v23=>
(Ew a0 v23).bind fun y25=>
(is2 y25 a1).bind fun r27=>
if (decide (r27<0))=true then
some (.inl ((IntKind.i64.wrap (v23+1)),p10))
else
some (.inl (p9,v23))
else
some (.inr p9)
noncomputable def NL (a0:List Al) (a1:List UInt8) (is2:Al→(List UInt8)→Option Int):Option (Int×Bool):=
(Ch (Tc a0 a1 is2) (0,(a0.length:Int))).bind fun r30=>
(match r30 with
| p21=>
(if ((decide (p21<(a0.length:Int)))==true)=true then Ew a0 p21 else some default).bind fun y32=>
(if ((decide (p21<(a0.length:Int)))==true)=true then is2 y32 a1 else some default).bind fun r34=>
some (p21,(bif (decide (p21<(a0.length:Int))) then (r34==0) else false)))
noncomputable def TE (a0:List UInt8) (a1:List UInt8):Option Int:=
some (Vj a0 a1)
noncomputable def TC (a0:List UInt8) (a1:List UInt8):Option Int:=
(TE a0 a1).bind fun r1=>
some r1
noncomputable def bQ (a0:Al) (a1:List UInt8):Option Int:=
(TC a0.key a1).bind fun r1=>
some r1
def NN (a0:List Al) (a1:Int) (a2:Int):Option (List Al):=if (0≤a1∧a1≤a2∧a2≤(a0.length:Int))∧a0.length≤4398046511104 then some (a0.take a1.toNat++a0.drop a2.toNat) else none
def NO (a0:List Al) (a1:Int) (a2:List Al):Option ((List Al)×(List Al)):=if (0≤a1∧a1≤(a0.length:Int))∧0<a2.length∧a0.length+a2.length≤4398046511104 then some (a0.take a1.toNat++a2++a0.drop a1.toNat,a2) else none
noncomputable def Sy (p18:Int) (p49:List Al):Option (((List Al)×Int)⊕((List Al))):=
some (.inl (p49,(IntKind.i64.wrap (p18+1))))
noncomputable def Ps (p18:Int) (y51:Ae) (r53:Int×Bool) (p58:List Al):Option (((List Al)×Int)⊕((List Al))):=
if (!y51.Dm)=true then
(NO p58 r53.1 ([(Al.mk y51.key y51.value)]:List Al)).bind fun r60=>
if r60.2.length=([(Al.mk y51.key y51.value)]:List Al).length then
Sy p18 r60.1
else none
else
Sy p18 p58
noncomputable def Nf (a1:List Ae) (s:(List Al)×Int):Option (((List Al)×Int)⊕((List Al))):=
match s with
| (p17,p18)=>
if (decide (p18<(a1.length:Int)))=true then
(Ew a1 p18).bind fun y51=>
(NL p17 y51.key (fun z417_0 z417_1=>bQ z417_0 z417_1)).bind fun r53=>
if r53.2=true then
(NN p17 r53.1 (IntKind.i64.wrap (r53.1+1))).bind fun r65=>
Ps p18 y51 r53 r65
else
Ps p18 y51 r53 p17
else
some (.inr p17)
noncomputable def fS (a0:List Al) (a1:List Ae):Option ((List Al)×Bool):=
(fV a0).bind fun r1=>
(Ch (Nf a1) (r1,0)).bind fun r67=>
(match r67 with
| p35=>
some (p35,(decide ((p35.length:Int)≤100))))
noncomputable def Sz (r3:(List (List UInt8))×Int) (s:(List Al)×Int):Option (((List Al)×Int)⊕((List Al))):=
match s with
| (p16,p17)=>
if (decide (p17<(r3.1.length:Int)))=true then
(Ew r3.1 p17).bind fun y33=>
(r3.1[p17.toNat]?).bind fun y35=>
(nJ y35).bind fun r37=>
if (!r37.2)=true then
some (.inr p16)
else
(fS p16 r37.1).bind fun r40=>
if (!r40.2)=true then
some (.inr p16)
else
some (.inl (r40.1,(IntKind.i64.wrap (p17+1))))
else
some (.inr p16)
noncomputable def nK (a0:Av):Option (List Al):=
(bK a0).bind fun r1=>
(Zk r1).bind fun r3=>
(Ch (Sz r3) ([],0)).bind fun r43=>
(match r43 with
| p31=>
some p31)
noncomputable def nE (a0:Av) (a1:List Ae):Option (Av×Int):=
(fQ a1).bind fun r1=>
if (!r1)=true then
some ((Av.mk ([]:List UInt8) ([]:List As)),2)
else
(mW a0).bind fun r4=>
(if ((!r4)==false)=true then fR a1 else some default).bind fun r6=>
if (bif (!r4) then true else (!r6))=true then
some ((Av.mk ([]:List UInt8) ([]:List As)),1)
else
(nK a0).bind fun r9=>
(fS r9 a1).bind fun r11=>
if (!r11.2)=true then
some ((Av.mk ([]:List UInt8) ([]:List As)),9)
else
(nI a1).bind fun r14=>
(LA a0 r14).bind fun r16=>
some (r16.1,r16.2)
noncomputable def mZ (a0:List Al):Option Bool:=
some (decide ((a0.length:Int)≤4096))
noncomputable def Mv (a0:List Al) (s:Int):Option ((Int)⊕(Unit⊕Bool)):=
match s with
| p11=>
if (decide (p11<(a0.length:Int)))=true then
(Ew a0 p11).bind fun y24=>
(bO y24.key).bind fun r26=>
(if (((bif (!r26) then true else (decide ((y24.value.length:Int)>400)))==false)&&((decide (p11>0))==true))=true then Ew a0 (IntKind.i64.wrap (p11-1)) else some default).bind fun y28=>
Bn ((bif (bif (!r26) then true else (decide ((y24.value.length:Int)>400))) then true else (bif (decide (p11>0)) then (!(Op.bytesLess y28.key y24.key)) else false))) fun v30=>
if v30=true then
some (.inr (.inr false))
else
some (.inl (IntKind.i64.wrap (p11+1)))
else
some (.inr (.inl ()))
noncomputable def nA (a0:List Al):Option Bool:=
(Ch (Mv a0) 0).bind fun r33=>
(match r33 with
| .inl ()=>
some (decide ((a0.length:Int)≤100))
| .inr q=>some q)
noncomputable def MM (a0:List Al) (a1:List Ae):Option ((List Al)×Int):=
(mZ a0).bind fun r1=>
(if ((!r1)==false)=true then fQ a1 else some default).bind fun r3=>
if (bif (!r1) then true else (!r3))=true then
some ([],2)
else
(nA a0).bind fun r6=>
(if ((!r6)==false)=true then fR a1 else some default).bind fun r8=>
if (bif (!r6) then true else (!r8))=true then
some ([],1)
else
(fS a0 a1).bind fun r11=>
if (!r11.2)=true then
some ([],9)
else
some (r11.1,0)
noncomputable def MO (a0:Av):Option ((List Al)×Int):=
(mW a0).bind fun r1=>
if (!r1)=true then
some ([],1)
else
(nK a0).bind fun r4=>
some (r4,0)
noncomputable def YP (a0:Int) (a1:Int) (a2:Int):Option Bool:=
some (bif (decide (a0≥a1)) then (decide (a0≤a2)) else false)
noncomputable def Ph (a0:Av) (s:Int):Option ((Int)⊕(Unit⊕Bool)):=
match s with
| p12=>
if (decide (p12<(a0.Aq.length:Int)))=true then
(Ew a0.Aq p12).bind fun y23=>
(YP y23.at_ 0 127).bind fun r25=>
(if ((!r25)==false)=true then Ew a0.Aq p12 else some default).bind fun y27=>
if (bif (!r25) then true else ((y27.data.length:Int) != 32))=true then
some (.inr (.inr false))
else
some (.inl (IntKind.i64.wrap (p12+1)))
else
some (.inr (.inl ()))
noncomputable def LE (a0:Av):Option Bool:=
Bn ((bif (bif ((((a0.held.length:Int)).tmod 32) != 0) then true else (decide ((a0.held.length:Int)>4096))) then true else (decide ((a0.Aq.length:Int)>4096)))) fun v1=>
if v1=true then
some false
else
(Ch (Ph a0) 0).bind fun r30=>
(match r30 with
| .inl ()=>
some true
| .inr q=>some q)
noncomputable def Sr (p47:Int) (p56:Int):Option ((Int×Int)⊕(Int)):=
some (.inl (p56,(IntKind.i64.wrap (p47+1))))
noncomputable def Nb  (s:Int×Int):Option ((Int×Int)⊕(Int)):=
match s with
| (p46,p47)=>
if (decide (p47<8))=true then
if (((p46).tmod 2)==1)=true then
Sr p47 (Ks .i64 (IntKind.i64.wrap ((p46).tdiv 2)) 3988292384)
else
Sr p47 (IntKind.i64.wrap ((p46).tdiv 2))
else
some (.inr p46)
noncomputable def Na (a0:List UInt8) (s:Int×Int):Option ((Int×Int)⊕(Int)):=
match s with
| (p17,p18)=>
if (decide (p18<(a0.length:Int)))=true then
(Ew a0 p18).bind fun y39=>
(Ch (Nb) ((Ks .i64 p17 (IntKind.i64.wrap ((y39).toNat:Int))),0)).bind fun r59=>
(match r59 with
| p53=>
some (.inl (p53,(IntKind.i64.wrap (p18+1)))))
else
some (.inr p17)
noncomputable def MA (a0:List UInt8):Option Int:=
(Ch (Na a0) (4294967295,0)).bind fun r61=>
(match r61 with
| p37=>
some (Ks .i64 p37 4294967295))
noncomputable def LJ (a0:List UInt8):Option (List UInt8):=
if (([b8 (IntKind.i64.wrap (((IntKind.i64.wrap ((a0.length:Int)+1))).tdiv 256)),b8 (((IntKind.i64.wrap ((a0.length:Int)+1))).tmod 256)]:List UInt8).length+a0.length)*1≤140737488355328 then
Bn (([b8 (IntKind.i64.wrap (((IntKind.i64.wrap ((a0.length:Int)+1))).tdiv 256)),b8 (((IntKind.i64.wrap ((a0.length:Int)+1))).tmod 256)]:List UInt8)++a0) fun v2=>
(MA v2).bind fun r4=>
if (v2.length+([b8 (IntKind.i64.wrap ((r4).tdiv 16777216)),b8 (((IntKind.i64.wrap ((r4).tdiv 65536))).tmod 256),b8 (((IntKind.i64.wrap ((r4).tdiv 256))).tmod 256),b8 ((r4).tmod 256)]:List UInt8).length)*1≤140737488355328 then
Bn (v2++([b8 (IntKind.i64.wrap ((r4).tdiv 16777216)),b8 (((IntKind.i64.wrap ((r4).tdiv 65536))).tmod 256),b8 (((IntKind.i64.wrap ((r4).tdiv 256))).tmod 256),b8 ((r4).tmod 256)]:List UInt8)) fun v7=>
some v7
else none
else none
noncomputable def Jd (a0:List UInt8) (a1:Int) (v6:Int) (r14:(List UInt8)) (s:Int):Option ((Int)⊕(Unit⊕((List UInt8)×Bool))):=
match s with
| p24=>
if (decide (p24<4))=true then
(Ew a0 (IntKind.i64.wrap ((IntKind.i64.wrap ((IntKind.i64.wrap (a1+2))+v6))+p24))).bind fun y35=>
(Ew r14 (IntKind.i64.wrap ((IntKind.i64.wrap (2+v6))+p24))).bind fun y37=>
(r14[(IntKind.i64.wrap ((IntKind.i64.wrap (2+v6))+p24)).toNat]?).bind fun y39=>
if (((y35).toNat:Int) != ((y39).toNat:Int))=true then
some (.inr (.inr (([]:List UInt8),false)))
else
some (.inl (IntKind.i64.wrap (p24+1)))
else
some (.inr (.inl ()))
noncomputable def LW (a0:List UInt8) (a1:Int):Option ((List UInt8)×Bool):=
if (decide ((IntKind.i64.wrap (a1+2))>(a0.length:Int)))=true then
some (([]:List UInt8),false)
else
(Ew a0 a1).bind fun y2=>
(Ew a0 (IntKind.i64.wrap (a1+1))).bind fun y4=>
Bn (IntKind.i64.wrap ((IntKind.i64.wrap ((IntKind.i64.wrap ((IntKind.i64.wrap ((y2).toNat:Int))*256))+(IntKind.i64.wrap ((y4).toNat:Int))))-1)) fun v6=>
Bn ((bif (bif (decide (v6<0)) then true else (decide (v6>2000))) then true else (decide ((IntKind.i64.wrap ((IntKind.i64.wrap (a1+v6))+6))>(a0.length:Int))))) fun v8=>
if v8=true then
some (([]:List UInt8),false)
else
(Hx a0 (IntKind.i64.wrap (a1+2)) (IntKind.i64.wrap ((IntKind.i64.wrap (a1+2))+v6))).bind fun s11=>
if (([]:List UInt8).length+s11.length)*1≤140737488355328 then
(LJ (([]:List UInt8)++s11)).bind fun r14=>
(Ch (Jd a0 a1 v6 r14) 0).bind fun r42=>
(match r42 with
| .inl ()=>
some (([]:List UInt8)++s11,true)
| .inr q=>some q)
else none
noncomputable def Pi (a0:List UInt8) (s:(List (List UInt8))×Int):Option (((List (List UInt8))×Int)⊕((List (List UInt8))×Int)):=
match s with
| (p5,p6)=>
(LW a0 p6).bind fun r13=>
if (!r13.2)=true then
some (.inr (p5,p6))
else
if (p5.length+([r13.1]:List (List UInt8)).length)*24≤140737488355328 then
some (.inl ((p5++([r13.1]:List (List UInt8))),(IntKind.i64.wrap (p6+(IntKind.i64.wrap ((r13.1.length:Int)+6))))))
else none
noncomputable def LG (a0:List UInt8):Option ((List (List UInt8))×Int):=
(Ch (Pi a0) (([]:List (List UInt8)),0)).bind fun r17=>
(match r17 with
| q=>some q)
noncomputable def Po (a1:As) (s:(List UInt8)):Option (((List UInt8))⊕((List UInt8))):=
match s with
| p7=>
Bn ((decide ((p7.length:Int)<(IntKind.i64.wrap ((IntKind.i64.wrap (a1.at_+1))*32))))) fun v15=>
if v15=true then
if 0≤(32:Int) then
if ((p7.length:Int)+(32:Int))*1≤140737488355328 then
some (.inl (p7++List.replicate (32:Int).toNat (0:UInt8)))
else none
else none
else
some (.inr p7)
noncomputable def LY (a0:List UInt8) (a1:As):Option (List UInt8):=
if (([]:List UInt8).length+a0.length)*1≤140737488355328 then
(Ch (Po a1) (([]:List UInt8)++a0)).bind fun r20=>
(match r20 with
| p14=>
(Hx p14 (IntKind.i64.wrap (a1.at_*32)) (p14.length:Int)).bind fun s22=>
Bn (ovl p14 ((IntKind.i64.wrap (a1.at_*32)).toNat) (a1.data.take s22.length)) fun v24=>
some v24)
else none
noncomputable def Pj (a0:Av) (s:(List UInt8)×Int):Option (((List UInt8)×Int)⊕((List UInt8))):=
match s with
| (p7,p8)=>
if (decide (p8<(a0.Aq.length:Int)))=true then
(Ew a0.Aq p8).bind fun y18=>
(LY p7 y18).bind fun r20=>
some (.inl (r20,(IntKind.i64.wrap (p8+1))))
else
some (.inr p7)
noncomputable def LH (a0:Av):Option (List UInt8):=
if (([]:List UInt8).length+a0.held.length)*1≤140737488355328 then
(Ch (Pj a0) ((([]:List UInt8)++a0.held),0)).bind fun r22=>
(match r22 with
| p16=>
some p16)
else none
noncomputable def MU (a0:Av):Option ((List (List UInt8))×Int):=
(LE a0).bind fun r1=>
if (!r1)=true then
some (([]:List (List UInt8)),1)
else
(LH a0).bind fun r4=>
(LG r4).bind fun r6=>
some (r6.1,0)
noncomputable def Pv (p41:List Al) (y86:Ae) (s:Int):Option ((Int)⊕(Int)):=
match s with
| p95=>
(if ((decide (p95<(p41.length:Int)))==true)=true then Ew p41 p95 else some default).bind fun y105=>
(if ((decide (p95<(p41.length:Int)))==true)=true then p41[p95.toNat]? else some default).bind fun y107=>
Bn ((bif (decide (p95<(p41.length:Int))) then (Op.bytesLess y107.key y86.key) else false)) fun v109=>
if v109=true then
some (.inl (IntKind.i64.wrap (p95+1)))
else
some (.inr p95)
noncomputable def Tb (p42:Int) (p126:List Al) (p131:List Al):Option (((List Al)×Int)⊕((List Al))):=
if (p131.length+p126.length)*32≤140737488355328 then
some (.inl ((p131++p126),(IntKind.i64.wrap (p42+1))))
else none
noncomputable def Pu (p41:List Al) (p42:Int) (y86:Ae) (p104:Int) (p126:List Al):Option (((List Al)×Int)⊕((List Al))):=
(Hx p41 0 p104).bind fun s127=>
if (!y86.Dm)=true then
if (s127.length+([(Al.mk y86.key y86.value)]:List Al).length)*32≤140737488355328 then
Tb p42 p126 (s127++([(Al.mk y86.key y86.value)]:List Al))
else none
else
Tb p42 p126 s127
noncomputable def Ng (a1:List Ae) (s:(List Al)×Int):Option (((List Al)×Int)⊕((List Al))):=
match s with
| (p41,p42)=>
if (decide (p42<(a1.length:Int)))=true then
(Ew a1 p42).bind fun y86=>
(Ch (Pv p41 y86) 0).bind fun r112=>
(match r112 with
| p104=>
(Hx p41 p104 (p41.length:Int)).bind fun s114=>
if (([]:List Al).length+s114.length)*32≤140737488355328 then
(if ((decide (((([]:List Al)++s114).length:Int)>0))==true)=true then Ew (([]:List Al)++s114) 0 else some default).bind fun y117=>
(if ((decide (((([]:List Al)++s114).length:Int)>0))==true)=true then (([]:List Al)++s114)[(0:Int).toNat]? else some default).bind fun y119=>
Bn ((bif (decide (((([]:List Al)++s114).length:Int)>0)) then (y119.key==y86.key) else false)) fun v121=>
if v121=true then
(Hx (([]:List Al)++s114) 1 ((([]:List Al)++s114).length:Int)).bind fun s138=>
Pu p41 p42 y86 p104 s138
else
Pu p41 p42 y86 p104 (([]:List Al)++s114)
else none)
else
some (.inr p41)
noncomputable def NE (a0:List Al) (a1:List Ae):Option (List Al):=
if (([]:List Al).length+a0.length)*32≤140737488355328 then
(Ch (Ng a1) ((([]:List Al)++a0),0)).bind fun r140=>
(match r140 with
| p84=>
some p84)
else none
noncomputable def MC (a0:Ae):Option Bool:=
Bn ((bif (bif (bif (decide ((a0.key.length:Int)>0)) then (decide ((a0.key.length:Int)≤60)) else false) then (decide ((a0.value.length:Int)≤400)) else false) then (bif (!a0.Dm) then true else (a0.value==([]:List UInt8))) else false)) fun v1=>
some v1
noncomputable def Pt (a0:List Ae) (s:Int):Option ((Int)⊕(Unit⊕Bool)):=
match s with
| p8=>
if (decide (p8<(a0.length:Int)))=true then
(Ew a0 p8).bind fun y17=>
(MC y17).bind fun r19=>
if (!r19)=true then
some (.inr (.inr false))
else
some (.inl (IntKind.i64.wrap (p8+1)))
else
some (.inr (.inl ()))
noncomputable def NC (a0:List Ae):Option Bool:=
if (decide ((a0.length:Int)>30))=true then
some false
else
(Ch (Pt a0) 0).bind fun r22=>
(match r22 with
| .inl ()=>
some true
| .inr q=>some q)
noncomputable def Pw (a0:List UInt8) (p26:List Ae) (s62:List UInt8) (v64:Int) (p73:Int) (p74:Bool):Option (((List Ae)×Int)⊕((List Ae)⊕((List Ae)×Bool))):=
Bn ((decide ((IntKind.i64.wrap ((IntKind.i64.wrap (v64+2))+p73))>(a0.length:Int)))) fun v75=>
if v75=true then
some (.inr (.inr (p26,false)))
else
(Hx a0 (IntKind.i64.wrap (v64+2)) (IntKind.i64.wrap ((IntKind.i64.wrap (v64+2))+p73))).bind fun s78=>
if (p26.length+([(Ae.mk s62 s78 p74)]:List Ae).length)*40≤140737488355328 then
some (.inl ((p26++([(Ae.mk s62 s78 p74)]:List Ae)),(IntKind.i64.wrap ((IntKind.i64.wrap (v64+2))+p73))))
else none
noncomputable def Td (a0:List UInt8) (s:(List Ae)×Int):Option (((List Ae)×Int)⊕((List Ae)⊕((List Ae)×Bool))):=
match s with
| (p26,p27)=>
if (decide (p27<(a0.length:Int)))=true then
(Ew a0 p27).bind fun y57=>
Bn ((decide ((IntKind.i64.wrap ((IntKind.i64.wrap ((IntKind.i64.wrap (p27+1))+(IntKind.i64.wrap ((y57).toNat:Int))))+2))>(a0.length:Int)))) fun v59=>
if v59=true then
some (.inr (.inr (p26,false)))
else
(Hx a0 (IntKind.i64.wrap (p27+1)) (IntKind.i64.wrap ((IntKind.i64.wrap (p27+1))+(IntKind.i64.wrap ((y57).toNat:Int))))).bind fun s62=>
Bn (IntKind.i64.wrap (p27+(IntKind.i64.wrap (1+(IntKind.i64.wrap ((y57).toNat:Int)))))) fun v64=>
(Ew a0 v64).bind fun y66=>
(Ew a0 (IntKind.i64.wrap (v64+1))).bind fun y68=>
Bn (IntKind.i64.wrap ((IntKind.i64.wrap ((IntKind.i64.wrap ((IntKind.i64.wrap ((y66).toNat:Int))*256))+(IntKind.i64.wrap ((y68).toNat:Int))))-1)) fun v70=>
if (decide (v70<0))=true then
Pw a0 p26 s62 v64 0 true
else
Pw a0 p26 s62 v64 v70 false
else
some (.inr (.inl p26))
noncomputable def NP (a0:List UInt8):Option ((List Ae)×Bool):=
(Ch (Td a0) (([]:List Ae),0)).bind fun r83=>
(match r83 with
| .inl p55=>
(NC p55).bind fun r85=>
some (p55,r85)
| .inr q=>some q)
noncomputable def Ta (a0:List (List UInt8)) (s:(List Al)×Int):Option (((List Al)×Int)⊕((List Al))):=
match s with
| (p10,p11)=>
if (decide (p11<(a0.length:Int)))=true then
(Ew a0 p11).bind fun y25=>
(NP y25).bind fun r27=>
if (!r27.2)=true then
some (.inr p10)
else
(NE p10 r27.1).bind fun r30=>
if (decide ((r30.length:Int)>100))=true then
some (.inr p10)
else
some (.inl (r30,(IntKind.i64.wrap (p11+1))))
else
some (.inr p10)
noncomputable def MV (a0:List (List UInt8)):Option (List Al):=
(Ch (Ta a0) (([]:List Al),0)).bind fun r33=>
(match r33 with
| p23=>
some p23)
noncomputable def MP (a0:Av):Option ((List Al)×Int):=
(MU a0).bind fun r1=>
if (r1.2 != 0)=true then
some (([]:List Al),r1.2)
else
(MV r1.1).bind fun r4=>
some (r4,0)
noncomputable def MX (a0:List UInt8):Option Bool:=
some (decide ((a0.length:Int)≤65536))
noncomputable def dM (a0:List Al) (is1:Al→Option Bool) (s:Int):Option ((Int)⊕(Unit⊕Int)):=
match s with
| p7=>
if (decide (p7<(a0.length:Int)))=true then
(Ew a0 p7).bind fun y16=>
(is1 y16).bind fun r18=>
if r18=true then
some (.inr (.inr p7))
else
some (.inl (IntKind.i64.wrap (p7+1)))
else
some (.inr (.inl ()))
noncomputable def TD (a0:List Al) (is1:Al→Option Bool):Option Int:=
(Ch (dM a0 is1) 0).bind fun r21=>
(match r21 with
| .inl ()=>
some (-1)
| .inr q=>some q)
noncomputable def Xq (p20:Int) (p52:List Al) (p53:Int):Option (((List Al)×Int×Int)⊕((List Al)×Int)):=
some (.inl (p52,p53,(IntKind.i64.wrap (p20+1))))
noncomputable def dI (is1:Al→Option Bool) (s:(List Al)×Int×Int):Option (((List Al)×Int×Int)⊕((List Al)×Int)):=
match s with
| (p18,p19,p20)=>
if (decide (p20<(p18.length:Int)))=true then
(Ew p18 p20).bind fun y55=>
(p18[p20.toNat]?).bind fun y57=>
(is1 y57).bind fun r59=>
if (!r59)=true then
(Ew p18 p19).bind fun y62=>
(p18[p19.toNat]?).bind fun y64=>
Xq p20 (p18.set p19.toNat y57) (IntKind.i64.wrap (p19+1))
else
Xq p20 p18 p19
else
some (.inr (p18,p19))
noncomputable def MY (a0:List Al) (is1:Al→Option Bool):Option (List Al):=
(TD a0 is1).bind fun r1=>
if (r1==(-1))=true then
some a0
else
(Ch (dI is1) (a0,r1,(IntKind.i64.wrap (r1+1)))).bind fun r66=>
(match r66 with
| (p38,p39)=>
(Hx p38 p39 (p38.length:Int)).bind fun s68=>
(Hx (ovl p38 p39.toNat (List.replicate s68.length (Al.mk ([]:List UInt8) ([]:List UInt8)))) 0 p39).bind fun s70=>
some s70)
noncomputable def MG (a0:List UInt8) (a1:List UInt8):Option Bool:=
(if ((decide ((a0.length:Int)≥(a1.length:Int)))==true)=true then Hx a0 0 (a1.length:Int) else some default).bind fun s1=>
Bn ((bif (decide ((a0.length:Int)≥(a1.length:Int))) then (s1==a1) else false)) fun v3=>
some v3
noncomputable def TB (a0:List UInt8) (a1:List UInt8):Option Bool:=
(MG a0 a1).bind fun r1=>
some r1
noncomputable def fW (a0:Al) (a1:List UInt8):Option Bool:=
(TB a0.key a1).bind fun r1=>
some (!r1)
noncomputable def MQ (a0:List Al) (a1:List UInt8):Option ((List Al)×Int):=
(mZ a0).bind fun r1=>
(if ((!r1)==false)=true then MX a1 else some default).bind fun r3=>
if (bif (!r1) then true else (!r3))=true then
some ([],2)
else
(nA a0).bind fun r6=>
if (!r6)=true then
some ([],1)
else
(fV a0).bind fun r9=>
(MY r9 (fun z404_0=>fW z404_0 a1)).bind fun r11=>
some (r11,0)
noncomputable def Ss (r2:(List (List Ae))) (s:(List Al)×Int×(List UInt8)×(List As)):Option (((List Al)×Int×(List UInt8)×(List As))⊕(((List Al)×(List UInt8)×(List As))⊕Bool)):=
match s with
| (p37,p38,p39,p40)=>
if (decide (p38<(r2.length:Int)))=true then
(Ew r2 p38).bind fun y82=>
(r2[p38.toNat]?).bind fun y84=>
(nD y84).bind fun r86=>
(MK r86.1).bind fun r88=>
(nD r88.1).bind fun r90=>
(if ((bif (bif (bif (r86.2 != 0) then true else (r88.2 != 0)) then true else (r90.2 != 0)) then true else (!(r90.1==r86.1)))==false)=true then Ew r2 p38 else some default).bind fun y92=>
(if ((bif (bif (bif (r86.2 != 0) then true else (r88.2 != 0)) then true else (r90.2 != 0)) then true else (!(r90.1==r86.1)))==false)=true then r2[p38.toNat]? else some default).bind fun y94=>
Bn ((bif (bif (bif (bif (r86.2 != 0) then true else (r88.2 != 0)) then true else (r90.2 != 0)) then true else (!(r90.1==r86.1))) then true else ((r88.1.length:Int) != (y94.length:Int)))) fun v96=>
if v96=true then
some (.inr (.inr false))
else
(Ew r2 p38).bind fun y99=>
(r2[p38.toNat]?).bind fun y101=>
(nE (Av.mk p39 p40) y101).bind fun r103=>
if (r103.2==9)=true then
some (.inr (.inr true))
else
(Ew r2 p38).bind fun y107=>
(r2[p38.toNat]?).bind fun y109=>
(MM p37 y109).bind fun r111=>
if (bif (r103.2 != 0) then true else (r111.2 != 0))=true then
some (.inr (.inr false))
else
some (.inl (r111.1,(IntKind.i64.wrap (p38+1)),r103.1.held,r103.1.Aq))
else
some (.inr (.inl (p37,p39,p40)))
noncomputable def Pp (r116:(List Al)×Int) (s:Int):Option ((Int)⊕(Unit⊕Bool)):=
match s with
| p139=>
if (decide (p139<(r116.1.length:Int)))=true then
(Ew r116.1 (IntKind.i64.wrap (p139-1))).bind fun y152=>
(r116.1[(IntKind.i64.wrap (p139-1)).toNat]?).bind fun y154=>
(Ew r116.1 p139).bind fun y156=>
(r116.1[p139.toNat]?).bind fun y158=>
if (!(Op.bytesLess y154.key y158.key))=true then
some (.inr (.inr false))
else
some (.inl (IntKind.i64.wrap (p139+1)))
else
some (.inr (.inl ()))
noncomputable def Nd (p179:Int) (p212:Int):Option ((Int×Int)⊕(Int)):=
some (.inl (p212,(IntKind.i64.wrap (p179+1))))
noncomputable def Pq (r116:(List Al)×Int) (s:Int×Int):Option ((Int×Int)⊕(Int)):=
match s with
| (p178,p179)=>
if (decide (p179<(r116.1.length:Int)))=true then
(Ew r116.1 p179).bind fun y214=>
(r116.1[p179.toNat]?).bind fun y216=>
(if ((decide ((y216.key.length:Int)>5))==true)=true then Ew r116.1 p179 else some default).bind fun y218=>
(if ((decide ((y216.key.length:Int)>5))==true)=true then r116.1[p179.toNat]? else some default).bind fun y220=>
(if ((decide ((y216.key.length:Int)>5))==true)=true then Hx y220.key 0 6 else some default).bind fun s222=>
Bn ((bif (decide ((y216.key.length:Int)>5)) then (s222==([108,101,97,115,101,47]:List UInt8)) else false)) fun v224=>
if v224=true then
Nd p179 (IntKind.i64.wrap (p178+1))
else
Nd p179 p178
else
some (.inr p178)
noncomputable def TA (a0:List UInt8):Option Bool:=
if (decide ((a0.length:Int)>1048576))=true then
some true
else
(MH a0).bind fun r2=>
(Ch (Ss r2) (([]:List Al),0,([]:List UInt8),([]:List As))).bind fun r114=>
(match r114 with
| .inl (p78,p79,p80)=>
(MO (Av.mk p79 p80)).bind fun r116=>
(MP (Av.mk p79 p80)).bind fun r118=>
(if ((r116.2 != 0)==false)=true then mX r116.1 r118.1 else some default).bind fun r120=>
(if ((bif (r116.2 != 0) then true else (!r120))==false)=true then mX r116.1 p78 else some default).bind fun r122=>
Bn ((bif (bif (r116.2 != 0) then true else (!r120)) then true else (!r122))) fun v124=>
if v124=true then
some false
else
(MQ r116.1 ([108,101,97,115,101,47]:List UInt8)).bind fun r127=>
(Ch (Pp r116) 1).bind fun r161=>
(match r161 with
| .inl ()=>
(Ch (Pq r116) (0,0)).bind fun r227=>
(match r227 with
| p197=>
some (bif (r127.2==0) then ((r127.1.length:Int)==p197) else false))
| .inr q=>some q)
| .inr q=>some q)
end Go.Ev
