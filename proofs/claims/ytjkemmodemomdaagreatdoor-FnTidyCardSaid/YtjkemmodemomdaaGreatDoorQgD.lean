/- Functions with the answers of the program's, written by a program of ours. -/
import Derived.Test.YtjkemmodemomdaaGreatDoorQvG
set_option linter.all false
set_option maxHeartbeats 4000000
set_option linter.unusedVariables false
set_option maxRecDepth 100000
namespace Go.Ev
structure Bs where
  code_:List UInt8
  at_:Int
  Cn:Int
  deriving Inhabited,DecidableEq
def uK (x:Bs):Prop:=(qJ Mv) x.code_∧Ns x.at_∧Ns x.Cn
def Ar (x:Bs):List V:=[.lst 1 (x.code_.map Iy),.int .i64 x.at_,.int .i64 x.Cn]
structure Ad where
  Am:Int
  to_:Int
  Bx:List UInt8
  Kv:Bool
  deriving Inhabited,DecidableEq
def Zy (x:Ad):Prop:=Ns x.Am∧Ns x.to_∧Vf x.Bx∧Mv x.Kv
def Ac (x:Ad):List V:=[.int .i64 x.Am,.int .i64 x.to_,.str x.Bx,.bool x.Kv]
structure Aq where
  name_:List UInt8
  Cn:List UInt8
  Am:Int
  number:Int
  Ax:List UInt8
  Gg:Int
  Ag:List Ad
  deriving Inhabited,DecidableEq
def oV (x:Aq):Prop:=Vf x.name_∧(qJ Mv) x.Cn∧Ns x.Am∧Ns x.number∧Vf x.Ax∧Ns x.Gg∧(qJ Zy) x.Ag
def Ae (x:Aq):List V:=[.str x.name_,.lst 1 (x.Cn.map Iy),.int .i64 x.Am,.int .i64 x.number,.str x.Ax,.int .i64 x.Gg,.lst 4 (x.Ag.map Ac)]
structure Fl where
  kind:Int
  Am:Int
  now:Int
  ttl:Int
  Bx:List UInt8
  key:List UInt8
  deriving Inhabited,DecidableEq
def wS (x:Fl):Prop:=Ns x.kind∧Ns x.Am∧Ns x.now∧Ns x.ttl∧Vf x.Bx∧(qJ Mv) x.key
def Bf (x:Fl):List V:=[.int .i64 x.kind,.int .i64 x.Am,.int .i64 x.now,.int .i64 x.ttl,.str x.Bx,.lst 1 (x.key.map Iy)]
structure Cd where
  code_:Int
  number:Int
  bytes:List UInt8
  deriving Inhabited,DecidableEq
def qH (x:Cd):Prop:=Ns x.code_∧Ns x.number∧(qJ Mv) x.bytes
def tG (x:Cd):List V:=[.int .i64 x.code_,.int .i64 x.number,.lst 1 (x.bytes.map Iy)]
noncomputable def wM (a0:List UInt8) (a1:Int) (a2:Int):Option Int:=
if (decide (a2≤1))=true then
some 0
else
if ((a0.length:Int)==0)=true then
if a2≠0 then
some (((IntKind.i64.wrap (a1*7))).tmod a2)
else none
else
if (a0.length:Int)≠0 then
(Je a0 ((a1).tmod (a0.length:Int))).bind fun y5=>
(Je a0 (((IntKind.i64.wrap (a1+1))).tmod (a0.length:Int))).bind fun y7=>
if a2≠0 then
Cz (((IntKind.i64.wrap ((IntKind.i64.wrap ((IntKind.i64.wrap ((IntKind.i64.wrap ((y5).toNat:Int))*31))+(IntKind.i64.wrap ((y7).toNat:Int))))+(IntKind.i64.wrap ((a1).tdiv (a0.length:Int)))))).tmod a2) fun v10=>
some v10
else none
else none
noncomputable def zF (a0:List UInt8):Option Bs:=
some (Bs.mk a0 0 (((a0.length:Int)).tmod 1000))
noncomputable def Ws (a0:Bs):Option (Int×Bs):=
if (decide ((IntKind.i64.wrap (a0.at_+1))≤(a0.code_.length:Int)))=true then
(Je a0.code_ (IntKind.i64.wrap ((IntKind.i64.wrap (a0.at_+1))-1))).bind fun y2=>
Cz (((IntKind.i64.wrap ((IntKind.i64.wrap ((IntKind.i64.wrap (a0.Cn*31))+(IntKind.i64.wrap ((y2).toNat:Int))))+7))).tmod 2147483648) fun v4=>
(Je a0.code_ (IntKind.i64.wrap ((IntKind.i64.wrap (a0.at_+1))-1))).bind fun y6=>
some (IntKind.i64.wrap ((y6).toNat:Int),(Bs.mk a0.code_ (IntKind.i64.wrap (a0.at_+1)) v4))
else
if (decide ((IntKind.i64.wrap (a0.at_+1))>3000))=true then
some (0,(Bs.mk a0.code_ (IntKind.i64.wrap (a0.at_+1)) a0.Cn))
else
Cz (((IntKind.i64.wrap ((IntKind.i64.wrap (a0.Cn*1103515245))+12345))).tmod 2147483648) fun v9=>
some (((IntKind.i64.wrap ((v9).tdiv 65536))).tmod 256,(Bs.mk a0.code_ (IntKind.i64.wrap (a0.at_+1)) v9))
noncomputable def Py (a0:Bs) (a1:Int):Option (Int×Bs):=
if (decide (a1≤1))=true then
some (0,a0)
else
if (decide (a1≤256))=true then
(Ws a0).bind fun r3=>
if a1≠0 then
some ((r3.1).tmod a1,r3.2)
else none
else
(Ws a0).bind fun r6=>
(Ws r6.2).bind fun r8=>
(Ws r8.2).bind fun r10=>
if a1≠0 then
Cz (((IntKind.i64.wrap ((IntKind.i64.wrap ((IntKind.i64.wrap (r6.1*65536))+(IntKind.i64.wrap (r8.1*256))))+r10.1))).tmod a1) fun v13=>
some (v13,r10.2)
else none
noncomputable def nI (a0:Bs) (a1:Int):Option (Bool×Bs):=
(Py a0 a1).bind fun r1=>
some ((r1.1==(IntKind.i64.wrap (a1-1))),r1.2)
noncomputable def oM (a0:Bs):Option ((List UInt8)×Bs):=
if 0≤(32:Int) then
if (32:Int)*1≤140737488355328 then
(Py a0 32).bind fun r3=>
(Py r3.2 256).bind fun r5=>
(Je (List.replicate (32:Int).toNat (0:UInt8)) r3.1).bind fun y7=>
((List.replicate (32:Int).toNat (0:UInt8))[r3.1.toNat]?).bind fun y9=>
(Py r5.2 4).bind fun r11=>
(Je ((List.replicate (32:Int).toNat (0:UInt8)).set r3.1.toNat (b8 r5.1)) 0).bind fun y13=>
(((List.replicate (32:Int).toNat (0:UInt8)).set r3.1.toNat (b8 r5.1))[(0:Int).toNat]?).bind fun y15=>
Cz (((List.replicate (32:Int).toNat (0:UInt8)).set r3.1.toNat (b8 r5.1)).set ((0:Int).toNat) (b8 r11.1)) fun v17=>
some (v17,r11.2)
else none
else none
noncomputable def Pd  (s:Int×Int×(List Ad)×(List UInt8)×Int×Int):Option ((Int×Int×(List Ad)×(List UInt8)×Int×Int)⊕(Int×(List Ad)×(List UInt8)×Int×Int)):=
match s with
| (p17,p18,p19,p20,p21,p22)=>
if (decide (p17>0))=true then
(Py (Bs.mk p20 p21 p22) 200).bind fun r45=>
(nI r45.2 2).bind fun r47=>
if (p19.length+([(Ad.mk p18 (IntKind.i64.wrap (1000+r45.1)) ([97,46,108,111,99,97,108]:List UInt8) r47.1)]:List Ad).length)*40≤140737488355328 then
Cz (p19++([(Ad.mk p18 (IntKind.i64.wrap (1000+r45.1)) ([97,46,108,111,99,97,108]:List UInt8) r47.1)]:List Ad)) fun v50=>
(Py r47.2 2).bind fun r52=>
some (.inl ((IntKind.i64.wrap (p17-1)),(IntKind.i64.wrap (p18+(IntKind.i64.wrap (1+r52.1)))),v50,r52.2.code_,r52.2.at_,r52.2.Cn))
else none
else
some (.inr (p18,p19,p20,p21,p22))
noncomputable def oK (a0:Bs):Option (Aq×Bs):=
(oM a0).bind fun r1=>
(Py r1.2 5).bind fun r3=>
(Py r3.2 5).bind fun r5=>
(Gc (Pd) (r5.1,1,([]:List Ad),r5.2.code_,r5.2.at_,r5.2.Cn)).bind fun r54=>
(match r54 with
| (p39,p40,p41,p42,p43)=>
some ((Aq.mk ([82,111,111,116,32,67,65]:List UInt8) r1.1 p39 (IntKind.i64.wrap (1+r3.1)) ([108,111,99,97,108]:List UInt8) 100 p40),(Bs.mk p41 p42 p43)))
noncomputable def oH (a0:List UInt8):Option Aq:=
(zF a0).bind fun r1=>
(oK r1).bind fun r3=>
some r3.1
noncomputable def oO (a0:Int) (a1:Int) (a2:Int):Option Bool:=
some (bif (decide (a1≤a0)) then (decide (a0≤a2)) else false)
noncomputable def xD (a0:Int):Option Bool:=
(oO a0 1 1000000).bind fun r1=>
some r1
noncomputable def Pz (a0:List Int) (a1:Int) (a2:Int) (s:Int):Option ((Int)⊕(Unit⊕Bool)):=
match s with
| p11=>
if (decide (p11<(a0.length:Int)))=true then
(Je a0 p11).bind fun y24=>
(oO y24 a1 a2).bind fun r26=>
(if (((!r26)==false)&&((decide (p11>0))==true))=true then Je a0 (IntKind.i64.wrap (p11-1)) else some default).bind fun y28=>
Cz ((bif (!r26) then true else (bif (decide (p11>0)) then (decide (y28≥y24)) else false))) fun v30=>
if v30=true then
some (.inr (.inr false))
else
some (.inl (IntKind.i64.wrap (p11+1)))
else
some (.inr (.inl ()))
noncomputable def zE (a0:List Int) (a1:Int) (a2:Int):Option Bool:=
(Gc (Pz a0 a1 a2) 0).bind fun r33=>
(match r33 with
| .inl ()=>
some true
| .inr q=>some q)
noncomputable def Yg (a0:List UInt8) (is1:UInt8→Option Bool) (s:Int):Option ((Int)⊕(Unit⊕Int)):=
match s with
| p7=>
if (decide (p7<(a0.length:Int)))=true then
(Je a0 p7).bind fun y16=>
(is1 y16).bind fun r18=>
if r18=true then
some (.inr (.inr p7))
else
some (.inl (IntKind.i64.wrap (p7+1)))
else
some (.inr (.inl ()))
noncomputable def tJ (a0:List UInt8) (is1:UInt8→Option Bool):Option Int:=
(Gc (Yg a0 is1) 0).bind fun r21=>
(match r21 with
| .inl ()=>
some (-1)
| .inr q=>some q)
noncomputable def oB (a0:List UInt8) (is1:UInt8→Option Bool):Option Bool:=
(tJ a0 is1).bind fun r1=>
some (decide (r1≥0))
noncomputable def oD (a0:UInt8) (is1:UInt8→Option Bool):Option Bool:=
(is1 a0).bind fun r1=>
some (!r1)
noncomputable def nS (a0:List UInt8) (is1:UInt8→Option Bool):Option Bool:=
(oB a0 (fun z369_0=>oD z369_0 is1)).bind fun r1=>
some (!r1)
noncomputable def wI (a0:UInt8):Option Bool:=
Cz ((bif (bif (decide (((a0).toNat:Int)≥97)) then (decide (((a0).toNat:Int)≤122)) else false) then true else (bif (decide (((a0).toNat:Int)≥65)) then (decide (((a0).toNat:Int)≤90)) else false))) fun v1=>
some v1
noncomputable def wJ (a0:UInt8):Option Bool:=
Cz ((bif (decide (((a0).toNat:Int)≥48)) then (decide (((a0).toNat:Int)≤57)) else false)) fun v1=>
some v1
noncomputable def wL (a0:List UInt8) (a1:UInt8):Option Int:=
some (Sz a0 ((a1).toNat:Int))
noncomputable def wK (a0:List UInt8) (a1:UInt8):Option Int:=
(wL a0 a1).bind fun r1=>
some r1
noncomputable def cI (a0:UInt8):Option Bool:=
(wI a0).bind fun r1=>
(if (r1==false)=true then wJ a0 else some default).bind fun r3=>
(if ((bif r1 then true else r3)==false)=true then wK ([39,40,41,43,44,45,46,47,58,61,63,32]:List UInt8) a0 else some default).bind fun r5=>
some (bif (bif r1 then true else r3) then true else (decide (r5≥0)))
noncomputable def cH (a0:List UInt8):Option Bool:=
(nS a0 (fun z338_0=>cI z338_0)).bind fun r1=>
some r1
noncomputable def cG (a0:List UInt8):Option Bool:=
(oO (a0.length:Int) 1 40).bind fun r1=>
(if (r1==true)=true then cH a0 else some default).bind fun r3=>
some (bif r1 then r3 else false)
noncomputable def nL (a0:List UInt8):Option Bool:=
some ((a0.length:Int)==32)
noncomputable def Mk (a0:List Ad) (s:(List Int)×Int):Option (((List Int)×Int)⊕((List Int))):=
match s with
| (p5,p6)=>
if (decide (p6<(a0.length:Int)))=true then
(Je a0 p6).bind fun y15=>
if (p5.length+([y15.Am]:List Int).length)*8≤140737488355328 then
some (.inl ((p5++([y15.Am]:List Int)),(IntKind.i64.wrap (p6+1))))
else none
else
some (.inr p5)
noncomputable def nM (a0:List Ad):Option (List Int):=
(Gc (Mk a0) ([],0)).bind fun r18=>
(match r18 with
| p13=>
some p13)
noncomputable def Yf (a0:List Ad) (is1:Ad→Option Bool) (s:Int):Option ((Int)⊕(Unit⊕Int)):=
match s with
| p7=>
if (decide (p7<(a0.length:Int)))=true then
(Je a0 p7).bind fun y16=>
(is1 y16).bind fun r18=>
if r18=true then
some (.inr (.inr p7))
else
some (.inl (IntKind.i64.wrap (p7+1)))
else
some (.inr (.inl ()))
noncomputable def oE (a0:List Ad) (is1:Ad→Option Bool):Option Int:=
(Gc (Yf a0 is1) 0).bind fun r21=>
(match r21 with
| .inl ()=>
some (-1)
| .inr q=>some q)
noncomputable def nV (a0:List Ad) (is1:Ad→Option Bool):Option Bool:=
(oE a0 is1).bind fun r1=>
some (decide (r1≥0))
noncomputable def nX (a0:Ad) (is1:Ad→Option Bool):Option Bool:=
(is1 a0).bind fun r1=>
some (!r1)
noncomputable def nO (a0:List Ad) (is1:Ad→Option Bool):Option Bool:=
(nV a0 (fun z343_0=>nX z343_0 is1)).bind fun r1=>
some (!r1)
noncomputable def tI (a0:Int):Option Bool:=
(oO a0 0 253402300799).bind fun r1=>
some r1
noncomputable def Zo (a0:Ad):Option Bool:=
(tI a0.to_).bind fun r1=>
(if (r1==true)=true then cG a0.Bx else some default).bind fun r3=>
some (bif r1 then r3 else false)
noncomputable def nJ (a0:Aq):Option Bool:=
(cG a0.name_).bind fun r1=>
(if (r1==true)=true then nL a0.Cn else some default).bind fun r3=>
(if ((bif r1 then r3 else false)==true)=true then xD a0.Am else some default).bind fun r5=>
(if ((bif (bif r1 then r3 else false) then r5 else false)==true)=true then xD a0.number else some default).bind fun r7=>
(if ((bif (bif (bif (bif r1 then r3 else false) then r5 else false) then r7 else false) then (decide ((a0.Ax.length:Int)≤40)) else false)==true)=true then cH a0.Ax else some default).bind fun r9=>
(if ((bif (bif (bif (bif (bif r1 then r3 else false) then r5 else false) then r7 else false) then (decide ((a0.Ax.length:Int)≤40)) else false) then r9 else false)==true)=true then oO a0.Gg 1 253402300799 else some default).bind fun r11=>
(if ((bif (bif (bif (bif (bif (bif (bif r1 then r3 else false) then r5 else false) then r7 else false) then (decide ((a0.Ax.length:Int)≤40)) else false) then r9 else false) then r11 else false) then (decide ((a0.Ag.length:Int)≤40)) else false)==true)=true then nM a0.Ag else some default).bind fun r13=>
(if ((bif (bif (bif (bif (bif (bif (bif r1 then r3 else false) then r5 else false) then r7 else false) then (decide ((a0.Ax.length:Int)≤40)) else false) then r9 else false) then r11 else false) then (decide ((a0.Ag.length:Int)≤40)) else false)==true)=true then zE r13 1 (IntKind.i64.wrap (a0.Am-1)) else some default).bind fun r15=>
(if ((bif (bif (bif (bif (bif (bif (bif (bif r1 then r3 else false) then r5 else false) then r7 else false) then (decide ((a0.Ax.length:Int)≤40)) else false) then r9 else false) then r11 else false) then (decide ((a0.Ag.length:Int)≤40)) else false) then r15 else false)==true)=true then nO a0.Ag (fun z286_0=>Zo z286_0) else some default).bind fun r17=>
Cz ((bif (bif (bif (bif (bif (bif (bif (bif (bif r1 then r3 else false) then r5 else false) then r7 else false) then (decide ((a0.Ax.length:Int)≤40)) else false) then r9 else false) then r11 else false) then (decide ((a0.Ag.length:Int)≤40)) else false) then r15 else false) then r17 else false)) fun v19=>
some v19
def nR (a0:List UInt8):Option (List UInt8):=if ([]:List UInt8).length+a0.length≤140737488355328 then some a0 else none
def nZ (a0:List Ad):Option (List Ad):=if ([]:List Ad).length+a0.length≤3518437208883 then some a0 else none
noncomputable def oG (a0:Aq):Option Aq:=
(nR a0.Cn).bind fun r1=>
(nZ a0.Ag).bind fun r3=>
some (Aq.mk a0.name_ r1 a0.Am a0.number a0.Ax a0.Gg r3)
noncomputable def wH (a0:List UInt8):Option Bool:=
some (decide ((a0.length:Int)≤65536))
noncomputable def wN (a0:List UInt8):Option Bool:=
some (decide ((a0.length:Int)≤65536))
noncomputable def tL (a0:Fl):Option Bool:=
(wN a0.Bx).bind fun r1=>
(if (r1==true)=true then wH a0.key else some default).bind fun r3=>
some (bif r1 then r3 else false)
noncomputable def Tf (p20:Int) (p52:List Ad) (p53:Int):Option (((List Ad)×Int×Int)⊕((List Ad)×Int)):=
some (.inl (p52,p53,(IntKind.i64.wrap (p20+1))))
noncomputable def Yd (is1:Ad→Option Bool) (s:(List Ad)×Int×Int):Option (((List Ad)×Int×Int)⊕((List Ad)×Int)):=
match s with
| (p18,p19,p20)=>
if (decide (p20<(p18.length:Int)))=true then
(Je p18 p20).bind fun y55=>
(p18[p20.toNat]?).bind fun y57=>
(is1 y57).bind fun r59=>
if (!r59)=true then
(Je p18 p19).bind fun y62=>
(p18[p19.toNat]?).bind fun y64=>
Tf p20 (p18.set p19.toNat y57) (IntKind.i64.wrap (p19+1))
else
Tf p20 p18 p19
else
some (.inr (p18,p19))
noncomputable def cJ (a0:List Ad) (is1:Ad→Option Bool):Option (List Ad):=
(oE a0 is1).bind fun r1=>
if (r1==(-1))=true then
some a0
else
(Gc (Yd is1) (a0,r1,(IntKind.i64.wrap (r1+1)))).bind fun r66=>
(match r66 with
| (p38,p39)=>
(pB p38 p39 (p38.length:Int)).bind fun s68=>
(pB (ovl p38 p39.toNat (List.replicate s68.length (Ad.mk 0 0 ([]:List UInt8) false))) 0 p39).bind fun s70=>
some s70)
noncomputable def zD (a0:Int) (a1:Int):Option Int:=
if (decide (a0>(IntKind.i64.wrap (9223372036854775807-a1))))=true then
some 9223372036854775807
else
some (IntKind.i64.wrap (a0+a1))
noncomputable def Zp (a0:Ad) (a1:Fl):Option Bool:=
(zD a0.to_ a1.ttl).bind fun r1=>
some (decide (r1<a1.now))
noncomputable def tN (a0:Aq) (a1:Fl):Option (Cd×Aq):=
if (decide (a1.ttl<0))=true then
some ((Cd.mk 4 0 ([]:List UInt8)),a0)
else
(cJ a0.Ag (fun z517_0=>Zp z517_0 a1)).bind fun r2=>
some ((Cd.mk 0 (IntKind.i64.wrap ((a0.Ag.length:Int)-(r2.length:Int))) ([]:List UInt8)),(Aq.mk a0.name_ a0.Cn a0.Am a0.number a0.Ax a0.Gg r2))
noncomputable def tM (a0:Aq) (a1:Fl):Option (Cd×Aq):=
if (a1.kind==1)=true then
none
else
if (a1.kind==2)=true then
none
else
if (a1.kind==3)=true then
none
else
if (a1.kind==4)=true then
(tN a0 a1).bind fun r5=>
some (r5.1,r5.2)
else
if (a1.kind==5)=true then
(nL a1.key).bind fun r8=>
if (!r8)=true then
some ((Cd.mk 10 0 ([]:List UInt8)),a0)
else
(nR a1.key).bind fun r11=>
some ((Cd.mk 0 0 ([]:List UInt8)),(Aq.mk a0.name_ r11 a0.Am a0.number a0.Ax a0.Gg a0.Ag))
else
some ((Cd.mk 16 0 ([]:List UInt8)),a0)
noncomputable def oJ (a0:Aq) (a1:Fl):Option (Aq×Cd×Int):=
(nJ a0).bind fun r1=>
(if ((!r1)==false)=true then tL a1 else some default).bind fun r3=>
if (bif (!r1) then true else (!r3))=true then
some ((Aq.mk ([]:List UInt8) ([]:List UInt8) 0 0 ([]:List UInt8) 0 ([]:List Ad)),(Cd.mk 0 0 ([]:List UInt8)),1)
else
(oG a0).bind fun r6=>
(tM r6 a1).bind fun r8=>
some (r8.2,r8.1,0)
noncomputable def Ml (p32:Int) (p67:Int):Option ((Int×Int)⊕(Int⊕Bool)):=
some (.inl (p67,(IntKind.i64.wrap (p32+1))))
noncomputable def Kp (r4:Aq) (r6:Int) (r8:Int) (r10:Aq×Cd×Int) (s:Int×Int):Option ((Int×Int)⊕(Int⊕Bool)):=
match s with
| (p31,p32)=>
if (decide (p32<(r4.Ag.length:Int)))=true then
(Je r4.Ag p32).bind fun y69=>
Cz ((decide ((IntKind.i64.wrap (y69.to_+r8))<(IntKind.i64.wrap (1000+r6))))) fun v71=>
if v71=true then
Ml p32 p31
else
(if ((decide (p31≥(r10.1.Ag.length:Int)))==false)=true then Je r10.1.Ag p31 else some default).bind fun y74=>
(if ((decide (p31≥(r10.1.Ag.length:Int)))==false)=true then r10.1.Ag[p31.toNat]? else some default).bind fun y76=>
(if ((decide (p31≥(r10.1.Ag.length:Int)))==false)=true then Je r4.Ag p32 else some default).bind fun y78=>
Cz ((bif (decide (p31≥(r10.1.Ag.length:Int))) then true else (!((y76.Am==y78.Am)&&((y76.to_==y78.to_)&&((y76.Bx==y78.Bx)&&((y76.Kv==y78.Kv)&&true))))))) fun v80=>
if v80=true then
some (.inr (.inr false))
else
Ml p32 (IntKind.i64.wrap (p31+1))
else
some (.inr (.inl p31))
noncomputable def tK (a0:List UInt8) (a1:List UInt8):Option Bool:=
Cz ((bif (decide ((a0.length:Int)>1048576)) then true else (decide ((a1.length:Int)>1048576)))) fun v1=>
if v1=true then
some true
else
(oH a0).bind fun r4=>
(wM a1 0 300).bind fun r6=>
(wM a1 1 50).bind fun r8=>
(oJ r4 (Fl.mk 4 0 (IntKind.i64.wrap (1000+r6)) r8 ([]:List UInt8) ([]:List UInt8))).bind fun r10=>
Cz ((bif (bif (bif (r10.2.2 != 0) then true else (r10.2.1.code_ != 0)) then true else (r10.1.Am != r4.Am)) then true else (r10.1.number != r4.number))) fun v12=>
if v12=true then
some false
else
(Gc (Kp r4 r6 r8 r10) (0,0)).bind fun r83=>
(match r83 with
| .inl p51=>
Cz ((bif (p51==(r10.1.Ag.length:Int)) then (r10.2.1.number==(IntKind.i64.wrap ((r4.Ag.length:Int)-p51))) else false)) fun v85=>
some v85
| .inr q=>some q)
end Go.Ev
