/- Functions with the answers of the program's, written by a program of ours. -/
import Derived.Test.YtdmclbbhhcpjfaaQvG
set_option linter.all false
set_option maxHeartbeats 4000000
set_option linter.unusedVariables false
set_option maxRecDepth 100000
namespace Go.Ev
structure Ab where
  id : Int
  Be : Int
  cap : Int
  Bt : Bool
  deriving Inhabited, DecidableEq
def xV (x : Ab) : Prop := Ly x.id ∧ Ly x.Be ∧ Ly x.cap ∧ Zr x.Bt
def At (x : Ab) : List V := [.int .i64 x.id, .int .i64 x.Be, .int .i64 x.cap, .bool x.Bt]
structure Ai where
  clock : Int
  next : Int
  Ad : List Ab
  deriving Inhabited, DecidableEq
def xW (x : Ai) : Prop := Ly x.clock ∧ Ly x.next ∧ (okL xV) x.Ad
def Aw (x : Ai) : List V := [.int .i64 x.clock, .int .i64 x.next, .lst 4 (x.Ad.map At)]
structure Af where
  Av : Int
  Hl : Bool
  deriving Inhabited, DecidableEq
def qD (x : Af) : Prop := Ly x.Av ∧ Zr x.Hl
def Bi (x : Af) : List V := [.int .i64 x.Av, .bool x.Hl]
structure Ag where
  Ac : Ai
  Aa : List Af
  Ae : List Int
  Al : Bool
  deriving Inhabited, DecidableEq
def xX (x : Ag) : Prop := xW x.Ac ∧ (okL qD) x.Aa ∧ (okL Ly) x.Ae ∧ Zr x.Al
def Ah (x : Ag) : List V := [.int .i64 x.Ac.clock, .int .i64 x.Ac.next, .lst 4 (x.Ac.Ad.map At), .lst 2 (x.Aa.map Bi), .lst 1 (x.Ae.map eI), .bool x.Al]
structure Am where
  kind : Int
  id : Int
  ttl : Int
  Gw : Int
  clock : Int
  Dd : List Int
  stop : Int
  deriving Inhabited, DecidableEq
def iD (x : Am) : Prop := Ly x.kind ∧ Ly x.id ∧ Ly x.ttl ∧ Ly x.Gw ∧ Ly x.clock ∧ (okL Ly) x.Dd ∧ Ly x.stop
def Ar (x : Am) : List V := [.int .i64 x.kind, .int .i64 x.id, .int .i64 x.ttl, .int .i64 x.Gw, .int .i64 x.clock, .lst 1 (x.Dd.map eI), .int .i64 x.stop]
structure Aq where
  code_ : Int
  id : Int
  deriving Inhabited, DecidableEq
def AB (x : Aq) : Prop := Ly x.code_ ∧ Ly x.id
def Bx (x : Aq) : List V := [.int .i64 x.code_, .int .i64 x.id]
structure Bj where
  code_ : List UInt8
  at_ : Int
  Ew : Int
  deriving Inhabited, DecidableEq
def okDl00Src (x : Bj) : Prop := (okL Zr) x.code_ ∧ Ly x.at_ ∧ Ly x.Ew
def Bg (x : Bj) : List V := [.lst 1 (x.code_.map Wh), .int .i64 x.at_, .int .i64 x.Ew]
structure Bh where
  key : List UInt8
  value : List UInt8
  deriving Inhabited, DecidableEq
def okDPair (x : Bh) : Prop := xY x.key ∧ xY x.value
def Cz (x : Bh) : List V := [.str x.key, .str x.value]
structure Dn where
  v : Ag
  a : Am
  Ql : Int
  deriving Inhabited, DecidableEq
def okDrunner (x : Dn) : Prop := xX x.v ∧ iD x.a ∧ Ly x.Ql
def eDrunner (x : Dn) : List V := [.int .i64 x.v.Ac.clock, .int .i64 x.v.Ac.next, .lst 4 (x.v.Ac.Ad.map At), .lst 2 (x.v.Aa.map Bi), .lst 1 (x.v.Ae.map eI), .bool x.v.Al, .int .i64 x.a.kind, .int .i64 x.a.id, .int .i64 x.a.ttl, .int .i64 x.a.Gw, .int .i64 x.a.clock, .lst 1 (x.a.Dd.map eI), .int .i64 x.a.stop, .int .i64 x.Ql]
noncomputable def nI (a0 : Int) (a1 : Int) (a2 : Int) : Option Bool :=
some (bif (decide (a0 ≥ a1)) then (decide (a0 ≤ a2)) else false)
noncomputable def Pi (a0 : Am) (s : Int) : Option ((Int) ⊕ (Unit ⊕ Bool)) :=
match s with
| p10 =>
if (decide (p10 < (a0.Dd.length : Int))) = true then
(Cg a0.Dd p10).bind fun y19 =>
(nI y19 0 2).bind fun r21 =>
if (!r21) = true then
some (.inr (.inr false))
else
some (.inl (IntKind.i64.wrap (p10 + 1)))
else
some (.inr (.inl ()))
noncomputable def QS (a0 : Am) : Option Bool :=
(if ((decide ((a0.Dd.length : Int) > 4096)) == false) = true then nI a0.stop 0 2 else some default).bind fun r1 =>
if (bif (decide ((a0.Dd.length : Int) > 4096)) then true else (!r1)) = true then
some false
else
(Bm (Pi a0) 0).bind fun r24 =>
(match r24 with
| .inl () =>
some true
| .inr q => some q)
noncomputable def eV (a0 : Ai) (a1 : Int) (s : Int) : Option ((Int) ⊕ (Unit ⊕ Int)) :=
match s with
| p5 =>
if (decide (p5 < (a0.Ad.length : Int))) = true then
(Cg a0.Ad p5).bind fun y12 =>
if (y12.id == a1) = true then
some (.inr (.inr p5))
else
some (.inl (IntKind.i64.wrap (p5 + 1)))
else
some (.inr (.inl ()))
noncomputable def AA (a0 : Ai) (a1 : Int) : Option Int :=
(Bm (eV a0 a1) 0).bind fun r15 =>
(match r15 with
| .inl () =>
some (-1)
| .inr q => some q)
noncomputable def gO (a0 : Ai) : Option Ai :=
if (([] : List Ab).length + a0.Ad.length) * 32 ≤ 140737488355328 then
some (Ai.mk a0.clock a0.next (([] : List Ab) ++ a0.Ad))
else none
noncomputable def g74 (a0 : Ai) (a1 : Int) : Option (Ai × Int) :=
(AA a0 a1).bind fun r1 =>
if (decide (r1 < 0)) = true then
some (a0, 5)
else
(gO a0).bind fun r4 =>
(Cg r4.Ad r1).bind fun y6 =>
(r4.Ad[r1.toNat]?).bind fun y8 =>
some ((Ai.mk r4.clock r4.next (r4.Ad.set r1.toNat (Ab.mk y8.id y8.Be y8.cap true))), 0)
noncomputable def UT (a0 : Int) (a1 : Int) : Option Int :=
if (decide (a0 > (IntKind.i64.wrap (9223372036854775807 - a1)))) = true then
some 9223372036854775807
else
some (IntKind.i64.wrap (a0 + a1))
noncomputable def g79 (a0 : Ai) (a1 : Int) (a2 : Int) : Option (Ai × Int) :=
(AA a0 a1).bind fun r1 =>
if (decide (a2 < 1)) = true then
some (a0, 4)
else
if (decide (r1 < 0)) = true then
some (a0, 5)
else
(Cg a0.Ad r1).bind fun y5 =>
if y5.Bt = true then
some (a0, 13)
else
(gO a0).bind fun r8 =>
(Cg r8.Ad r1).bind fun y10 =>
(r8.Ad[r1.toNat]?).bind fun y12 =>
(UT a0.clock a2).bind fun r14 =>
some ((Ai.mk r8.clock r8.next (r8.Ad.set r1.toNat (Ab.mk y12.id (if r14 < y12.cap then r14 else y12.cap) y12.cap y12.Bt))), 0)
noncomputable def Un (p103 : Int) (p132 : Int) : Option ((Int × Int) ⊕ (Int)) :=
some (.inl (p132, (IntKind.i64.wrap (p103 + 1))))
noncomputable def Ys (a0 : Ai) (a1 : Int) (p45 : List Ab) (s : Int × Int) : Option ((Int × Int) ⊕ (Int)) :=
match s with
| (p102, p103) =>
if (decide (p103 < (p45.length : Int))) = true then
(Cg p45 p103).bind fun y134 =>
(p45[p103.toNat]?).bind fun y136 =>
(if (((bif (!y136.Bt) then (decide (y136.Be ≤ (if a1 > a0.clock then a1 else a0.clock))) else false) == true) && ((decide (p102 < 0)) == false)) = true then Cg p45 p102 else some default).bind fun y138 =>
(if (((bif (!y136.Bt) then (decide (y136.Be ≤ (if a1 > a0.clock then a1 else a0.clock))) else false) == true) && ((decide (p102 < 0)) == false)) = true then p45[p102.toNat]? else some default).bind fun y140 =>
Bd ((bif (bif (!y136.Bt) then (decide (y136.Be ≤ (if a1 > a0.clock then a1 else a0.clock))) else false) then (bif (decide (p102 < 0)) then true else (decide (y136.Be < y140.Be))) else false)) fun v142 =>
if v142 = true then
Un p103 p103
else
Un p103 p102
else
some (.inr p102)
noncomputable def eT (a0 : Ai) (a1 : Int) (r1 : Ai) (s : (List Int) × (List Ab)) : Option (((List Int) × (List Ab)) ⊕ (Ai × (List Int))) :=
match s with
| (p44, p45) =>
(Bm (Ys a0 a1 p45) ((-1), 0)).bind fun r145 =>
(match r145 with
| p119 =>
if (decide (p119 < 0)) = true then
some (.inr ((Ai.mk (if a1 > a0.clock then a1 else a0.clock) r1.next p45), p44))
else
(Cg p45 p119).bind fun y148 =>
(p45[p119.toNat]?).bind fun y150 =>
(Cg (p45.set p119.toNat (Ab.mk y150.id y150.Be y150.cap true)) p119).bind fun y152 =>
((p45.set p119.toNat (Ab.mk y150.id y150.Be y150.cap true))[p119.toNat]?).bind fun y154 =>
if (p44.length + ([y154.id] : List Int).length) * 8 ≤ 140737488355328 then
some (.inl ((p44 ++ ([y154.id] : List Int)), (p45.set p119.toNat (Ab.mk y150.id y150.Be y150.cap true))))
else none)
noncomputable def g81 (a0 : Ai) (a1 : Int) : Option (Ai × (List Int)) :=
(gO a0).bind fun r1 =>
(Bm (eT a0 a1 r1) (([] : List Int), r1.Ad)).bind fun r157 =>
(match r157 with
| q => some q)
noncomputable def Yh (a0 : Ag) : Option Ag :=
(gO a0.Ac).bind fun r1 =>
if (([] : List Af).length + a0.Aa.length) * 16 ≤ 140737488355328 then
if (([] : List Int).length + a0.Ae.length) * 8 ≤ 140737488355328 then
some (Ag.mk r1 (([] : List Af) ++ a0.Aa) (([] : List Int) ++ a0.Ae) a0.Al)
else none
else none
noncomputable def g70 (a0 : Ai) (a1 : Int) (a2 : Int) : Option (Ai × Int × Int) :=
if (bif (decide (a1 < 1)) then true else (decide (a2 < a1))) = true then
some (a0, 0, 4)
else
if (a0.clock == 9223372036854775807) = true then
some (a0, 0, 11)
else
Bd ((bif ((a0.Ad.length : Int) == 40) then true else (a0.next == 1000000))) fun v3 =>
if v3 = true then
some (a0, 0, 9)
else
(gO a0).bind fun r6 =>
(UT a0.clock a1).bind fun r8 =>
(UT a0.clock a2).bind fun r10 =>
if (r6.Ad.length + ([(Ab.mk a0.next r8 r10 false)] : List Ab).length) * 32 ≤ 140737488355328 then
some ((Ai.mk r6.clock (IntKind.i64.wrap (r6.next + 1)) (r6.Ad ++ ([(Ab.mk a0.next r8 r10 false)] : List Ab))), a0.next, 0)
else none
noncomputable def Up (a0 : List Int) (a1 : Int) (s : (List Int) × Int) : Option (((List Int) × Int) ⊕ ((List Int))) :=
match s with
| (p10, p11) =>
(if ((decide (p11 < (a0.length : Int))) == true) = true then Cg a0 p11 else some default).bind fun y23 =>
Bd ((bif (decide (p11 < (a0.length : Int))) then (decide (y23 < a1)) else false)) fun v25 =>
if v25 = true then
(Cg a0 p11).bind fun y28 =>
if (p10.length + ([y28] : List Int).length) * 8 ≤ 140737488355328 then
some (.inl ((p10 ++ ([y28] : List Int)), (IntKind.i64.wrap (p11 + 1))))
else none
else
some (.inr p10)
noncomputable def Yv (a0 : List Int) (a3 : Int) (p35 : List Int) (p41 : Int) : Option ((List Int) × Int) :=
(Tv a0 p41 (a0.length : Int)).bind fun s42 =>
if (p35.length + s42.length) * 8 ≤ 140737488355328 then
if (a3 == 2) = true then
some (p35 ++ s42, 15)
else
some (p35 ++ s42, 0)
else none
noncomputable def Yu (a0 : List Int) (a1 : Int) (a3 : Int) (p22 : List Int) (p35 : List Int) : Option ((List Int) × Int) :=
(if ((decide ((p22.length : Int) < (a0.length : Int))) == true) = true then Cg a0 (p22.length : Int) else some default).bind fun y36 =>
Bd ((bif (decide ((p22.length : Int) < (a0.length : Int))) then (y36 == a1) else false)) fun v38 =>
if v38 = true then
Yv a0 a3 p35 (IntKind.i64.wrap ((p22.length : Int) + 1))
else
Yv a0 a3 p35 (p22.length : Int)
noncomputable def UV (a0 : List Int) (a1 : Int) (a2 : Bool) (a3 : Int) : Option ((List Int) × Int) :=
if (a3 == 1) = true then
some (a0, 13)
else
(Bm (Up a0 a1) (([] : List Int), 0)).bind fun r31 =>
(match r31 with
| p22 =>
if a2 = true then
if (p22.length + ([a1] : List Int).length) * 8 ≤ 140737488355328 then
Yu a0 a1 a3 p22 (p22 ++ ([a1] : List Int))
else none
else
Yu a0 a1 a3 p22 p22)
noncomputable def Pl  (s : Int × (List Af)) : Option ((Int × (List Af)) ⊕ ((List Af))) :=
match s with
| (p8, p9) =>
if (decide (p8 < (p9.length : Int))) = true then
(Cg p9 p8).bind fun y19 =>
(p9[p8.toNat]?).bind fun y21 =>
some (.inl ((IntKind.i64.wrap (p8 + 1)), (p9.set p8.toNat (Af.mk y21.Av true))))
else
some (.inr p9)
noncomputable def dN (a0 : Ag) : Option Ag :=
(Yh a0).bind fun r1 =>
(Bm (Pl) (0, r1.Aa)).bind fun r23 =>
(match r23 with
| p17 =>
some (Ag.mk r1.Ac p17 r1.Ae true))
noncomputable def kD (a0 : Am) (a1 : Int) : Option Int :=
if (decide (a1 < (a0.Dd.length : Int))) = true then
(Cg a0.Dd a1).bind fun y2 =>
some y2
else
some 0
noncomputable def Jh (a0 : Ag) (a1 : Am) (r1 : Ai × Int × Int) (p4 : Int) : Option (Ag × Aq) :=
if (p4 != 0) = true then
some (a0, (Aq.mk p4 0))
else
(Yh a0).bind fun r6 =>
if (r6.Aa.length + ([(Af.mk r1.2.1 false)] : List Af).length) * 16 ≤ 140737488355328 then
if (a1.stop == 1) = true then
(dN (Ag.mk (Ai.mk r6.Ac.clock r1.1.next r6.Ac.Ad) (r6.Aa ++ ([(Af.mk r1.2.1 false)] : List Af)) r6.Ae r6.Al)).bind fun r10 =>
some (r10, (Aq.mk 15 0))
else
(kD a1 0).bind fun r12 =>
(UV r6.Ae r1.2.1 true r12).bind fun r14 =>
if (a1.stop == 2) = true then
(dN (Ag.mk (Ai.mk r6.Ac.clock r1.1.next r6.Ac.Ad) (r6.Aa ++ ([(Af.mk r1.2.1 false)] : List Af)) r14.1 r6.Al)).bind fun r17 =>
some (r17, (Aq.mk 15 0))
else
if (r14.2 != 0) = true then
(Cg (r6.Aa ++ ([(Af.mk r1.2.1 false)] : List Af)) (IntKind.i64.wrap (((r6.Aa ++ ([(Af.mk r1.2.1 false)] : List Af)).length : Int) - 1))).bind fun y20 =>
((r6.Aa ++ ([(Af.mk r1.2.1 false)] : List Af))[(IntKind.i64.wrap (((r6.Aa ++ ([(Af.mk r1.2.1 false)] : List Af)).length : Int) - 1)).toNat]?).bind fun y22 =>
some ((Ag.mk (Ai.mk r6.Ac.clock r1.1.next r6.Ac.Ad) ((r6.Aa ++ ([(Af.mk r1.2.1 false)] : List Af)).set ((IntKind.i64.wrap (((r6.Aa ++ ([(Af.mk r1.2.1 false)] : List Af)).length : Int) - 1)).toNat) (Af.mk y22.Av true)) r14.1 r6.Al), (Aq.mk r14.2 0))
else
(Tv (r6.Aa ++ ([(Af.mk r1.2.1 false)] : List Af)) 0 (IntKind.i64.wrap (((r6.Aa ++ ([(Af.mk r1.2.1 false)] : List Af)).length : Int) - 1))).bind fun s24 =>
some ((Ag.mk r1.1 s24 r14.1 r6.Al), (Aq.mk 0 r1.2.1))
else none
noncomputable def RG (a0 : Ag) (a1 : Am) : Option (Ag × Aq) :=
(g70 a0.Ac a1.ttl a1.Gw).bind fun r1 =>
if (bif (r1.2.2 == 0) then ((a0.Aa.length : Int) == 40) else false) = true then
Jh a0 a1 r1 9
else
Jh a0 a1 r1 r1.2.2
noncomputable def g76 (a0 : Ai) (a1 : Int) : Option (Ai × Int) :=
(AA a0 a1).bind fun r1 =>
if (decide (r1 < 0)) = true then
some (a0, 5)
else
(Cg a0.Ad r1).bind fun y4 =>
if (!y4.Bt) = true then
some (a0, 13)
else
(Tv a0.Ad 0 r1).bind fun s7 =>
(Tv a0.Ad (IntKind.i64.wrap (r1 + 1)) (a0.Ad.length : Int)).bind fun s9 =>
if (([] : List Ab).length + s7.length) * 32 ≤ 140737488355328 then
if ((([] : List Ab) ++ s7).length + s9.length) * 32 ≤ 140737488355328 then
some ((Ai.mk a0.clock a0.next ((([] : List Ab) ++ s7) ++ s9)), 0)
else none
else none
noncomputable def Ws (p10 : Int) (p29 : List Af) : Option (((List Af) × Int) ⊕ ((List Af))) :=
some (.inl (p29, (IntKind.i64.wrap (p10 + 1))))
noncomputable def Pp (a0 : List Af) (a1 : Int) (s : (List Af) × Int) : Option (((List Af) × Int) ⊕ ((List Af))) :=
match s with
| (p9, p10) =>
if (decide (p10 < (a0.length : Int))) = true then
(Cg a0 p10).bind fun y31 =>
if (y31.Av != a1) = true then
(Cg a0 p10).bind fun y34 =>
if (p9.length + ([y34] : List Af).length) * 16 ≤ 140737488355328 then
Ws p10 (p9 ++ ([y34] : List Af))
else none
else
Ws p10 p9
else
some (.inr p9)
noncomputable def RM (a0 : List Af) (a1 : Int) : Option (List Af) :=
(Bm (Pp a0 a1) (([] : List Af), 0)).bind fun r37 =>
(match r37 with
| p21 =>
some p21)
noncomputable def Sg (p28 : Int) (p87 : Int) (p88 : Int) (p89 : Int) (p90 : List Ab) (p91 : List Int) : Option ((Int × Int × Int × Int × (List Ab) × (List Int)) ⊕ ((Int × Int × Int × (List Ab) × (List Int)) ⊕ Ag)) :=
some (.inl (p87, (IntKind.i64.wrap (p28 + 1)), p88, p89, p90, p91))
noncomputable def Pm (a1 : Am) (r1 : Ag) (p27 : Int) (p28 : Int) (r100 : (List Int) × Int) (p105 : Int) (p106 : Int) (p107 : List Ab) : Option ((Int × Int × Int × Int × (List Ab) × (List Int)) ⊕ ((Int × Int × Int × (List Ab) × (List Int)) ⊕ Ag)) :=
if (a1.stop == 2) = true then
(dN (Ag.mk (Ai.mk p105 p106 p107) r1.Aa r100.1 r1.Al)).bind fun r109 =>
some (.inr (.inr r109))
else
Sg p28 (IntKind.i64.wrap (p27 + 1)) p105 p106 p107 r100.1
noncomputable def Kr (a0 : Ag) (a1 : Am) (r1 : Ag) (s : Int × Int × Int × Int × (List Ab) × (List Int)) : Option ((Int × Int × Int × Int × (List Ab) × (List Int)) ⊕ ((Int × Int × Int × (List Ab) × (List Int)) ⊕ Ag)) :=
match s with
| (p27, p28, p29, p30, p31, p32) =>
if (decide (p28 < (a0.Ac.Ad.length : Int))) = true then
(Cg a0.Ac.Ad p28).bind fun y93 =>
(Cg a0.Ac.Ad p28).bind fun y95 =>
if (!y95.Bt) = true then
Sg p28 p27 p29 p30 p31 p32
else
(kD a1 p27).bind fun r98 =>
(UV p32 y93.id false r98).bind fun r100 =>
if (r100.2 == 0) = true then
(g76 (Ai.mk p29 p30 p31) y93.id).bind fun r113 =>
Pm a1 r1 p27 p28 r100 r113.1.clock r113.1.next r113.1.Ad
else
Pm a1 r1 p27 p28 r100 p29 p30 p31
else
some (.inr (.inl (p27, p29, p30, p31, p32)))
noncomputable def Sh (p140 : Int) (p190 : Int) (p191 : List Af) (p192 : List Int) : Option ((Int × Int × (List Af) × (List Int)) ⊕ (((List Af) × (List Int)) ⊕ Ag)) :=
some (.inl (p190, (IntKind.i64.wrap (p140 + 1)), p191, p192))
noncomputable def Pn (a1 : Am) (r1 : Ag) (p64 : Int) (p65 : Int) (p66 : List Ab) (p139 : Int) (p140 : Int) (r201 : (List Int) × Int) (p208 : List Af) : Option ((Int × Int × (List Af) × (List Int)) ⊕ (((List Af) × (List Int)) ⊕ Ag)) :=
if (a1.stop == 2) = true then
(dN (Ag.mk (Ai.mk p64 p65 p66) p208 r201.1 r1.Al)).bind fun r210 =>
some (.inr (.inr r210))
else
Sh p140 (IntKind.i64.wrap (p139 + 1)) p208 r201.1
noncomputable def Im (a0 : Ag) (a1 : Am) (r1 : Ag) (p64 : Int) (p65 : Int) (p66 : List Ab) (s : Int × Int × (List Af) × (List Int)) : Option ((Int × Int × (List Af) × (List Int)) ⊕ (((List Af) × (List Int)) ⊕ Ag)) :=
match s with
| (p139, p140, p141, p142) =>
if (decide (p140 < (a0.Aa.length : Int))) = true then
(Cg a0.Aa p140).bind fun y194 =>
if (!y194.Hl) = true then
Sh p140 p139 p141 p142
else
(Cg a0.Aa p140).bind fun y197 =>
(kD a1 p139).bind fun r199 =>
(UV p142 y197.Av false r199).bind fun r201 =>
if (r201.2 == 0) = true then
(Cg a0.Aa p140).bind fun y214 =>
(RM p141 y214.Av).bind fun r216 =>
Pn a1 r1 p64 p65 p66 p139 p140 r201 r216
else
Pn a1 r1 p64 p65 p66 p139 p140 r201 p141
else
some (.inr (.inl (p141, p142)))
noncomputable def kA (a0 : Ag) (a1 : Am) : Option Ag :=
(Yh a0).bind fun r1 =>
(Bm (Kr a0 a1 r1) (0, 0, r1.Ac.clock, r1.Ac.next, r1.Ac.Ad, r1.Ae)).bind fun r115 =>
(match r115 with
| .inl (p63, p64, p65, p66, p67) =>
(Bm (Im a0 a1 r1 p64 p65 p66) (p63, 0, r1.Aa, p67)).bind fun r218 =>
(match r218 with
| .inl (p169, p170) =>
some (Ag.mk (Ai.mk p64 p65 p66) p169 p170 r1.Al)
| .inr q => some q)
| .inr q => some q)
noncomputable def Gy (a0 : Ag) (p27 : Int) (p28 : Int) (p29 : Int) (p30 : List Ab) (p31 : List Af) (p32 : List Int) (p33 : Bool) : Option (Ag × Aq) :=
if (p27 != 0) = true then
some (a0, (Aq.mk p27 0))
else
some ((Ag.mk (Ai.mk p28 p29 p30) p31 p32 p33), (Aq.mk 0 0))
noncomputable def vX (a0 : Ag) (a1 : Am) : Option (Ag × Aq) :=
(nI a1.kind 1 6).bind fun r1 =>
if (!r1) = true then
some (a0, (Aq.mk 16 0))
else
if (bif a0.Al then (a1.kind != 6) else false) = true then
some (a0, (Aq.mk 14 0))
else
(Yh a0).bind fun r5 =>
if (a1.kind == 1) = true then
(RG a0 a1).bind fun r37 =>
some (r37.1, r37.2)
else
if (a1.kind == 2) = true then
(g79 a0.Ac a1.id a1.ttl).bind fun r40 =>
Gy a0 r40.2 r40.1.clock r40.1.next r40.1.Ad r5.Aa r5.Ae r5.Al
else
if (a1.kind == 3) = true then
(g74 a0.Ac a1.id).bind fun r43 =>
Gy a0 r43.2 r43.1.clock r43.1.next r43.1.Ad r5.Aa r5.Ae r5.Al
else
if (a1.kind == 4) = true then
(g81 a0.Ac a1.clock).bind fun r46 =>
if (a1.stop == 1) = true then
(dN (Ag.mk r46.1 r5.Aa r5.Ae r5.Al)).bind fun r49 =>
some (r49, (Aq.mk 15 0))
else
(kA (Ag.mk r46.1 r5.Aa r5.Ae r5.Al) a1).bind fun r51 =>
if (bif r51.Al then (!r5.Al) else false) = true then
some (r51, (Aq.mk 15 0))
else
Gy a0 0 r51.Ac.clock r51.Ac.next r51.Ac.Ad r51.Aa r51.Ae r51.Al
else
if (a1.kind == 5) = true then
Gy a0 0 r5.Ac.clock r5.Ac.next r5.Ac.Ad r5.Aa r5.Ae true
else
if (a1.kind == 6) = true then
Gy a0 0 r5.Ac.clock r5.Ac.next r5.Ac.Ad r5.Aa r5.Ae false
else
Gy a0 0 r5.Ac.clock r5.Ac.next r5.Ac.Ad r5.Aa r5.Ae r5.Al
noncomputable def eN (a0 : List Am) (s : (List Aq) × Int × Int × Int × (List Ab) × (List Af) × (List Int) × Bool) : Option (((List Aq) × Int × Int × Int × (List Ab) × (List Af) × (List Int) × Bool) ⊕ (((List Aq) × Int × Int × (List Ab) × (List Af) × (List Int) × Bool) ⊕ (Ag × (List Aq) × Int))) :=
match s with
| (p15, p16, p17, p18, p19, p20, p21, p22) =>
if (decide (p16 < (a0.length : Int))) = true then
(Cg a0 p16).bind fun y51 =>
(QS y51).bind fun r53 =>
if (!r53) = true then
some (.inr (.inr ((Ag.mk (Ai.mk 0 0 ([] : List Ab)) ([] : List Af) ([] : List Int) false), ([] : List Aq), 1)))
else
(Cg a0 p16).bind fun y56 =>
(vX (Ag.mk (Ai.mk p17 p18 p19) p20 p21 p22) y56).bind fun r58 =>
if (p15.length + ([r58.2] : List Aq).length) * 16 ≤ 140737488355328 then
some (.inl ((p15 ++ ([r58.2] : List Aq)), (IntKind.i64.wrap (p16 + 1)), r58.1.Ac.clock, r58.1.Ac.next, r58.1.Ac.Ad, r58.1.Aa, r58.1.Ae, r58.1.Al))
else none
else
some (.inr (.inl (p15, p17, p18, p19, p20, p21, p22)))
noncomputable def g50 (a0 : List Am) : Option (Ag × (List Aq) × Int) :=
if (decide ((a0.length : Int) > 4096)) = true then
some ((Ag.mk (Ai.mk 0 0 ([] : List Ab)) ([] : List Af) ([] : List Int) false), ([] : List Aq), 2)
else
if (decide ((a0.length : Int) > 120)) = true then
some ((Ag.mk (Ai.mk 0 0 ([] : List Ab)) ([] : List Af) ([] : List Int) false), ([] : List Aq), 6)
else
(Bm (eN a0) (([] : List Aq), 0, 0, 1, ([] : List Ab), ([] : List Af), ([] : List Int), false)).bind fun r62 =>
(match r62 with
| .inl (p43, p44, p45, p46, p47, p48, p49) =>
(Yh (Ag.mk (Ai.mk p44 p45 p46) p47 p48 p49)).bind fun r64 =>
some (r64, p43, 0)
| .inr q => some q)
noncomputable def g83 (a0 : List UInt8) : Option Bj :=
some (Bj.mk a0 0 (((a0.length : Int)).tmod 1000))
noncomputable def kC (a0 : Bj) : Option (Int × Bj) :=
if (decide ((IntKind.i64.wrap (a0.at_ + 1)) ≤ (a0.code_.length : Int))) = true then
(Cg a0.code_ (IntKind.i64.wrap ((IntKind.i64.wrap (a0.at_ + 1)) - 1))).bind fun y2 =>
Bd (((IntKind.i64.wrap ((IntKind.i64.wrap ((IntKind.i64.wrap (a0.Ew * 31)) + (IntKind.i64.wrap ((y2).toNat : Int)))) + 7))).tmod 2147483648) fun v4 =>
(Cg a0.code_ (IntKind.i64.wrap ((IntKind.i64.wrap (a0.at_ + 1)) - 1))).bind fun y6 =>
some (IntKind.i64.wrap ((y6).toNat : Int), (Bj.mk a0.code_ (IntKind.i64.wrap (a0.at_ + 1)) v4))
else
if (decide ((IntKind.i64.wrap (a0.at_ + 1)) > 3000)) = true then
some (0, (Bj.mk a0.code_ (IntKind.i64.wrap (a0.at_ + 1)) a0.Ew))
else
Bd (((IntKind.i64.wrap ((IntKind.i64.wrap (a0.Ew * 1103515245)) + 12345))).tmod 2147483648) fun v9 =>
some (((IntKind.i64.wrap ((v9).tdiv 65536))).tmod 256, (Bj.mk a0.code_ (IntKind.i64.wrap (a0.at_ + 1)) v9))
noncomputable def Qj (a0 : Bj) (a1 : Int) : Option (Int × Bj) :=
if (decide (a1 ≤ 1)) = true then
some (0, a0)
else
if (decide (a1 ≤ 256)) = true then
(kC a0).bind fun r3 =>
if a1 ≠ 0 then
some ((r3.1).tmod a1, r3.2)
else none
else
(kC a0).bind fun r6 =>
(kC r6.2).bind fun r8 =>
(kC r8.2).bind fun r10 =>
if a1 ≠ 0 then
Bd (((IntKind.i64.wrap ((IntKind.i64.wrap ((IntKind.i64.wrap (r6.1 * 65536)) + (IntKind.i64.wrap (r8.1 * 256)))) + r10.1))).tmod a1) fun v13 =>
some (v13, r10.2)
else none
noncomputable def QY (a0 : Bj) (a1 : Int) : Option Int :=
Bd (if a1 < (IntKind.i64.wrap (1 + (IntKind.i64.wrap (((a0.code_.length : Int)).tdiv 12)))) then a1 else (IntKind.i64.wrap (1 + (IntKind.i64.wrap (((a0.code_.length : Int)).tdiv 12))))) fun v1 =>
some v1
noncomputable def AcY (a0 : Bj) (a1 : Int) : Option (Bool × Bj) :=
(Qj a0 a1).bind fun r1 =>
some ((r1.1 == (IntKind.i64.wrap (a1 - 1))), r1.2)
noncomputable def Wt  (s : (List Int) × Int × (List UInt8) × Int × Int) : Option (((List Int) × Int × (List UInt8) × Int × Int) ⊕ ((List Int) × (List UInt8) × Int × Int)) :=
match s with
| (p7, p8, p9, p10, p11) =>
if (decide (p8 > 0)) = true then
(Qj (Bj.mk p9 p10 p11) 5).bind fun r26 =>
if (p7.length + ([(r26.1).tmod 3] : List Int).length) * 8 ≤ 140737488355328 then
some (.inl ((p7 ++ ([(r26.1).tmod 3] : List Int)), (IntKind.i64.wrap (p8 - 1)), r26.2.code_, r26.2.at_, r26.2.Ew))
else none
else
some (.inr (p7, p9, p10, p11))
noncomputable def wD (a0 : Bj) : Option ((List Int) × Bj) :=
(Qj a0 4).bind fun r1 =>
(Bm (Wt) (([] : List Int), r1.1, r1.2.code_, r1.2.at_, r1.2.Ew)).bind fun r29 =>
(match r29 with
| (p21, p22, p23, p24) =>
some (p21, (Bj.mk p22 p23 p24)))
noncomputable def Wp (p32 : Int) (p33 : Int) (p34 : Int) (p35 : Int) (p36 : Int) (p37 : List Int) (p46 : Int) (p47 : List UInt8) (p48 : Int) (p49 : Int) : Option (Am × Bj) :=
some ((Am.mk p32 p33 p34 p35 p36 p37 p46), (Bj.mk p47 p48 p49))
noncomputable def Ks (p32 : Int) (p33 : Int) (p34 : Int) (p35 : Int) (p36 : Int) (p37 : List Int) (p38 : List UInt8) (p39 : Int) (p40 : Int) : Option (Am × Bj) :=
(AcY (Bj.mk p38 p39 p40) 7).bind fun r41 =>
if r41.1 = true then
(Qj r41.2 2).bind fun r52 =>
Wp p32 p33 p34 p35 p36 p37 (IntKind.i64.wrap (1 + r52.1)) r52.2.code_ r52.2.at_ r52.2.Ew
else
Wp p32 p33 p34 p35 p36 p37 0 r41.2.code_ r41.2.at_ r41.2.Ew
noncomputable def Po (r1 : Int × Bj) (r3 : (List Int) × Bj) (r5 : Int × Bj) (r7 : Int × Bj) (p65 : Bool) : Option (Am × Bj) :=
if p65 = true then
(Qj r7.2 60).bind fun r67 =>
(wD r67.2).bind fun r69 =>
Ks 4 0 0 0 r67.1 r69.1 r69.2.code_ r69.2.at_ r69.2.Ew
else
if (r7.1 == 5) = true then
(Qj r7.2 4).bind fun r72 =>
(Cg ([5, 6, 6, 6] : List Int) r72.1).bind fun y74 =>
(([5, 6, 6, 6] : List Int)[r72.1.toNat]?).bind fun y76 =>
Ks y76 0 0 0 0 ([] : List Int) r72.2.code_ r72.2.at_ r72.2.Ew
else
Ks 1 0 (IntKind.i64.wrap (1 + r1.1)) (IntKind.i64.wrap ((IntKind.i64.wrap (1 + r1.1)) + r5.1)) 0 r3.1 r7.2.code_ r7.2.at_ r7.2.Ew
noncomputable def RH (a0 : Bj) : Option (Am × Bj) :=
(Qj a0 9).bind fun r1 =>
(wD r1.2).bind fun r3 =>
(Qj r3.2 9).bind fun r5 =>
(Qj r5.2 10).bind fun r7 =>
if (r7.1 == 0) = true then
(Qj r7.2 9).bind fun r56 =>
(Qj r56.2 12).bind fun r58 =>
Ks 2 (IntKind.i64.wrap (1 + r56.1)) (IntKind.i64.wrap (1 + r58.1)) 0 0 ([] : List Int) r58.2.code_ r58.2.at_ r58.2.Ew
else
if (r7.1 == 1) = true then
(Qj r7.2 9).bind fun r61 =>
Ks 3 (IntKind.i64.wrap (1 + r61.1)) 0 0 0 ([] : List Int) r61.2.code_ r61.2.at_ r61.2.Ew
else
if (r7.1 == 2) = true then
Po r1 r3 r5 r7 (r7.1 == 2)
else
if (r7.1 == 3) = true then
Po r1 r3 r5 r7 (r7.1 == 3)
else
Po r1 r3 r5 r7 (r7.1 == 4)
noncomputable def Wj (p16 : Int) (p45 : List Am) (p46 : List UInt8) (p47 : Int) (p48 : Int) : Option (((List Am) × Int × (List UInt8) × Int × Int) ⊕ ((List Am) × (List UInt8) × Int × Int)) :=
some (.inl (p45, (IntKind.i64.wrap (p16 - 1)), p46, p47, p48))
noncomputable def Wk  (s : (List Am) × Int × (List UInt8) × Int × Int) : Option (((List Am) × Int × (List UInt8) × Int × Int) ⊕ ((List Am) × (List UInt8) × Int × Int)) :=
match s with
| (p15, p16, p17, p18, p19) =>
if (decide (p16 > 0)) = true then
(RH (Bj.mk p17 p18 p19)).bind fun r50 =>
if (p15.length + ([r50.1] : List Am).length) * 72 ≤ 140737488355328 then
if (bif (r50.1.stop != 0) then true else (r50.1.kind == 5)) = true then
if ((p15 ++ ([r50.1] : List Am)).length + ([(Am.mk 6 0 0 0 0 ([] : List Int) 0)] : List Am).length) * 72 ≤ 140737488355328 then
Wj p16 ((p15 ++ ([r50.1] : List Am)) ++ ([(Am.mk 6 0 0 0 0 ([] : List Int) 0)] : List Am)) r50.2.code_ r50.2.at_ r50.2.Ew
else none
else
Wj p16 (p15 ++ ([r50.1] : List Am)) r50.2.code_ r50.2.at_ r50.2.Ew
else none
else
some (.inr (p15, p17, p18, p19))
noncomputable def AcW (a0 : Bj) : Option ((List Am) × Bj) :=
(QY a0 16).bind fun r1 =>
(Qj a0 (IntKind.i64.wrap (r1 + 3))).bind fun r3 =>
(Bm (Wk) (([] : List Am), r3.1, r3.2.code_, r3.2.at_, r3.2.Ew)).bind fun r55 =>
(match r55 with
| (p35, p36, p37, p38) =>
(Tv p35 0 (if 120 < (p35.length : Int) then 120 else (p35.length : Int))).bind fun s57 =>
some (s57, (Bj.mk p36 p37 p38)))
noncomputable def g51 (a0 : List UInt8) : Option (List Am) :=
(g83 a0).bind fun r1 =>
(AcW r1).bind fun r3 =>
some r3.1
noncomputable def Ym (a0 : Ai) (s : Int) : Option ((Int) ⊕ (Unit ⊕ Bool)) :=
match s with
| p16 =>
if (decide (p16 < (a0.Ad.length : Int))) = true then
(Cg a0.Ad p16).bind fun y29 =>
(nI y29.id 1 (IntKind.i64.wrap (a0.next - 1))).bind fun r31 =>
(if (((!r31) == false) && ((decide (p16 > 0)) == true)) = true then Cg a0.Ad (IntKind.i64.wrap (p16 - 1)) else some default).bind fun y33 =>
Bd ((bif (bif (bif (bif (!r31) then true else (bif (decide (p16 > 0)) then (decide (y33.id ≥ y29.id)) else false)) then true else (decide (y29.Be < 0))) then true else (decide (y29.Be > y29.cap))) then true else (bif (!y29.Bt) then (decide (y29.Be ≤ a0.clock)) else false))) fun v35 =>
if v35 = true then
some (.inr (.inr false))
else
some (.inl (IntKind.i64.wrap (p16 + 1)))
else
some (.inr (.inl ()))
noncomputable def g18 (a0 : Ai) : Option Bool :=
(if ((decide (a0.clock < 0)) == false) = true then nI a0.next 1 1000000 else some default).bind fun r1 =>
Bd ((bif (bif (decide (a0.clock < 0)) then true else (!r1)) then true else (decide ((a0.Ad.length : Int) > 40)))) fun v3 =>
if v3 = true then
some false
else
(Bm (Ym a0) 0).bind fun r38 =>
(match r38 with
| .inl () =>
some true
| .inr q => some q)
noncomputable def Yt (a0 : List Int) (a1 : Int) (s : Int) : Option ((Int) ⊕ (Unit ⊕ Bool)) :=
match s with
| p13 =>
if (decide (p13 < (a0.length : Int))) = true then
(Cg a0 p13).bind fun y28 =>
(nI y28 1 (IntKind.i64.wrap (a1 - 1))).bind fun r30 =>
(if (((!r30) == false) && ((decide (p13 > 0)) == true)) = true then Cg a0 (IntKind.i64.wrap (p13 - 1)) else some default).bind fun y32 =>
(if (((!r30) == false) && ((decide (p13 > 0)) == true)) = true then Cg a0 p13 else some default).bind fun y34 =>
Bd ((bif (!r30) then true else (bif (decide (p13 > 0)) then (decide (y32 ≥ y34)) else false))) fun v36 =>
if v36 = true then
some (.inr (.inr false))
else
some (.inl (IntKind.i64.wrap (p13 + 1)))
else
some (.inr (.inl ()))
noncomputable def g85 (a0 : List Int) (a1 : Int) : Option Bool :=
(Bm (Yt a0 a1) 0).bind fun r39 =>
(match r39 with
| .inl () =>
some true
| .inr q => some q)
noncomputable def Wn (a0 : Ag) (a1 : Int) (s : Int) : Option ((Int) ⊕ (Unit ⊕ Int)) :=
match s with
| p5 =>
if (decide (p5 < (a0.Aa.length : Int))) = true then
(Cg a0.Aa p5).bind fun y12 =>
if (y12.Av == a1) = true then
some (.inr (.inr p5))
else
some (.inl (IntKind.i64.wrap (p5 + 1)))
else
some (.inr (.inl ()))
noncomputable def RA (a0 : Ag) (a1 : Int) : Option Int :=
(Bm (Wn a0 a1) 0).bind fun r15 =>
(match r15 with
| .inl () =>
some (-1)
| .inr q => some q)
noncomputable def eW (a0 : Ag) (s : Int) : Option ((Int) ⊕ (Unit ⊕ Int)) :=
match s with
| p13 =>
if (decide (p13 < (a0.Ae.length : Int))) = true then
(Cg a0.Ae p13).bind fun y28 =>
(AA a0.Ac y28).bind fun r30 =>
(if ((decide (r30 < 0)) == true) = true then Cg a0.Ae p13 else some default).bind fun y32 =>
(if ((decide (r30 < 0)) == true) = true then RA a0 y32 else some default).bind fun r34 =>
if (bif (decide (r30 < 0)) then (decide (r34 < 0)) else false) = true then
(Cg a0.Ae p13).bind fun y37 =>
some (.inr (.inr y37))
else
some (.inl (IntKind.i64.wrap (p13 + 1)))
else
some (.inr (.inl ()))
noncomputable def g93 (a0 : Ag) : Option Int :=
(Bm (eW a0) 0).bind fun r39 =>
(match r39 with
| .inl () =>
some 0
| .inr q => some q)
noncomputable def Yp (a0 : Ag) (s : Int) : Option ((Int) ⊕ (Unit ⊕ Bool)) :=
match s with
| p20 =>
if (decide (p20 < (a0.Aa.length : Int))) = true then
(Cg a0.Aa p20).bind fun y35 =>
(nI y35.Av 1 (IntKind.i64.wrap (a0.Ac.next - 1))).bind fun r37 =>
(if (((!r37) == false) && ((decide (p20 > 0)) == true)) = true then Cg a0.Aa (IntKind.i64.wrap (p20 - 1)) else some default).bind fun y39 =>
(if ((bif (!r37) then true else (bif (decide (p20 > 0)) then (decide (y39.Av ≥ y35.Av)) else false)) == false) = true then AA a0.Ac y35.Av else some default).bind fun r41 =>
Bd ((bif (bif (!r37) then true else (bif (decide (p20 > 0)) then (decide (y39.Av ≥ y35.Av)) else false)) then true else (decide (r41 ≥ 0)))) fun v43 =>
if v43 = true then
some (.inr (.inr false))
else
some (.inl (IntKind.i64.wrap (p20 + 1)))
else
some (.inr (.inl ()))
noncomputable def g46 (a0 : Ag) : Option Bool :=
(g18 a0.Ac).bind fun r1 =>
(if ((bif (bif (!r1) then true else (decide ((a0.Aa.length : Int) > 40))) then true else (decide ((a0.Ae.length : Int) > 80))) == false) = true then g85 a0.Ae a0.Ac.next else some default).bind fun r3 =>
Bd ((bif (bif (bif (!r1) then true else (decide ((a0.Aa.length : Int) > 40))) then true else (decide ((a0.Ae.length : Int) > 80))) then true else (!r3))) fun v5 =>
if v5 = true then
some false
else
(Bm (Yp a0) 0).bind fun r46 =>
(match r46 with
| .inl () =>
(g93 a0).bind fun r48 =>
some (r48 == 0)
| .inr q => some q)
noncomputable def Ps (a0 : Int) (s : (List UInt8) × Int) : Option (((List UInt8) × Int) ⊕ ((List UInt8))) :=
match s with
| (p7, p8) =>
if (decide (p8 ≥ 0)) = true then
if 0 ≤ (IntKind.u64.wrap p8) then
(Cg ([48, 49, 50, 51, 52, 53, 54, 55, 56, 57, 97, 98, 99, 100, 101, 102] : List UInt8) (Sz .i64 (Jz .i64 a0 (IntKind.u64.wrap p8)) 15)).bind fun y20 =>
if (y20).toNat < 128 then
if p7.length + ([y20] : List UInt8).length ≤ 9223372036854775807 then
some (.inl ((p7 ++ ([y20] : List UInt8)), (IntKind.i64.wrap (p8 - 4))))
else none
else none
else none
else
some (.inr p7)
noncomputable def Yn (a0 : Int) : Option (List UInt8) :=
(Bm (Ps a0) (([] : List UInt8), 60)).bind fun r24 =>
(match r24 with
| p17 =>
some p17)
noncomputable def Sj (a0 : Ag) (p17 : List Bh) (p18 : Int) (p39 : List UInt8) : Option (((List Bh) × Int) ⊕ ((List Bh))) :=
(Cg a0.Aa p18).bind fun y40 =>
(Yn y40.Av).bind fun r42 =>
if ([105, 110, 116, 101, 110, 116, 47] : List UInt8).length + r42.length ≤ 9223372036854775807 then
if (p17.length + ([(Bh.mk (([105, 110, 116, 101, 110, 116, 47] : List UInt8) ++ r42) p39)] : List Bh).length) * 32 ≤ 140737488355328 then
Bd (p17 ++ ([(Bh.mk (([105, 110, 116, 101, 110, 116, 47] : List UInt8) ++ r42) p39)] : List Bh)) fun v46 =>
some (.inl (v46, (IntKind.i64.wrap (p18 + 1))))
else none
else none
noncomputable def Sm (a0 : Ag) (s : (List Bh) × Int) : Option (((List Bh) × Int) ⊕ ((List Bh))) :=
match s with
| (p17, p18) =>
if (decide (p18 < (a0.Aa.length : Int))) = true then
(Cg a0.Aa p18).bind fun y36 =>
if y36.Hl = true then
Sj a0 p17 p18 ([117, 110, 100, 111] : List UInt8)
else
Sj a0 p17 p18 ([98, 101, 103, 117, 110] : List UInt8)
else
some (.inr p17)
noncomputable def Sk (p75 : List Bh) (p76 : Int) (y104 : Ab) (p119 : List UInt8) : Option (((List Bh) × Int) ⊕ ((List Bh))) :=
(Yn y104.id).bind fun r120 =>
if ([108, 101, 97, 115, 101, 47] : List UInt8).length + r120.length ≤ 9223372036854775807 then
if (p75.length + ([(Bh.mk (([108, 101, 97, 115, 101, 47] : List UInt8) ++ r120) p119)] : List Bh).length) * 32 ≤ 140737488355328 then
Bd (p75 ++ ([(Bh.mk (([108, 101, 97, 115, 101, 47] : List UInt8) ++ r120) p119)] : List Bh)) fun v124 =>
some (.inl (v124, (IntKind.i64.wrap (p76 + 1))))
else none
else none
noncomputable def Sn (a0 : Ag) (s : (List Bh) × Int) : Option (((List Bh) × Int) ⊕ ((List Bh))) :=
match s with
| (p75, p76) =>
if (decide (p76 < (a0.Ac.Ad.length : Int))) = true then
(Cg a0.Ac.Ad p76).bind fun y104 =>
(Yn y104.Be).bind fun r106 =>
(Yn y104.cap).bind fun r108 =>
if r106.length + r108.length ≤ 9223372036854775807 then
if (r106 ++ r108).length + ([108, 105, 118, 101] : List UInt8).length ≤ 9223372036854775807 then
if y104.Bt = true then
(Yn y104.Be).bind fun r128 =>
(Yn y104.cap).bind fun r130 =>
if r128.length + r130.length ≤ 9223372036854775807 then
if (r128 ++ r130).length + ([113, 117, 101, 117, 101, 100] : List UInt8).length ≤ 9223372036854775807 then
Sk p75 p76 y104 ((r128 ++ r130) ++ ([113, 117, 101, 117, 101, 100] : List UInt8))
else none
else none
else
Sk p75 p76 y104 ((r106 ++ r108) ++ ([108, 105, 118, 101] : List UInt8))
else none
else none
else
some (.inr p75)
noncomputable def Sl (a0 : Ag) (p102 : List Bh) (p137 : List UInt8) : Option ((List Bh) × Int) :=
(Yn a0.Ac.clock).bind fun r138 =>
(Yn a0.Ac.next).bind fun r140 =>
if r138.length + r140.length ≤ 9223372036854775807 then
if (r138 ++ r140).length + p137.length ≤ 9223372036854775807 then
if (p102.length + ([(Bh.mk ([118, 97, 117, 108, 116] : List UInt8) ((r138 ++ r140) ++ p137))] : List Bh).length) * 32 ≤ 140737488355328 then
Bd (p102 ++ ([(Bh.mk ([118, 97, 117, 108, 116] : List UInt8) ((r138 ++ r140) ++ p137))] : List Bh)) fun v145 =>
some (v145, 0)
else none
else none
else none
noncomputable def SF (a0 : Ag) : Option ((List Bh) × Int) :=
(g46 a0).bind fun r1 =>
if (!r1) = true then
some (([] : List Bh), 1)
else
(Bm (Sm a0) (([] : List Bh), 0)).bind fun r50 =>
(match r50 with
| p34 =>
(Bm (Sn a0) (p34, 0)).bind fun r134 =>
(match r134 with
| p102 =>
if a0.Al = true then
Sl a0 p102 ([115, 101, 97, 108, 101, 100] : List UInt8)
else
Sl a0 p102 ([111, 112, 101, 110] : List UInt8)))
noncomputable def wL (a0 : Int) (a1 : Int) (a2 : Int) : Option Bool :=
some (bif (decide (a1 ≤ a0)) then (decide (a0 ≤ a2)) else false)
noncomputable def g58 (a0 : Int) : Option Bool :=
(wL a0 1 1000000).bind fun r1 =>
some r1
noncomputable def Yr (a0 : List Int) (a1 : Int) (a2 : Int) (s : Int) : Option ((Int) ⊕ (Unit ⊕ Bool)) :=
match s with
| p11 =>
if (decide (p11 < (a0.length : Int))) = true then
(Cg a0 p11).bind fun y24 =>
(wL y24 a1 a2).bind fun r26 =>
(if (((!r26) == false) && ((decide (p11 > 0)) == true)) = true then Cg a0 (IntKind.i64.wrap (p11 - 1)) else some default).bind fun y28 =>
Bd ((bif (!r26) then true else (bif (decide (p11 > 0)) then (decide (y28 ≥ y24)) else false))) fun v30 =>
if v30 = true then
some (.inr (.inr false))
else
some (.inl (IntKind.i64.wrap (p11 + 1)))
else
some (.inr (.inl ()))
noncomputable def g59 (a0 : List Int) (a1 : Int) (a2 : Int) : Option Bool :=
(Bm (Yr a0 a1 a2) 0).bind fun r33 =>
(match r33 with
| .inl () =>
some true
| .inr q => some q)
noncomputable def Mn (a0 : Ai) (s : (List Int) × Int) : Option (((List Int) × Int) ⊕ ((List Int))) :=
match s with
| (p5, p6) =>
if (decide (p6 < (a0.Ad.length : Int))) = true then
(Cg a0.Ad p6).bind fun y15 =>
if (p5.length + ([y15.id] : List Int).length) * 8 ≤ 140737488355328 then
some (.inl ((p5 ++ ([y15.id] : List Int)), (IntKind.i64.wrap (p6 + 1))))
else none
else
some (.inr p5)
noncomputable def UU (a0 : Ai) : Option (List Int) :=
(Bm (Mn a0) ([], 0)).bind fun r18 =>
(match r18 with
| p13 =>
some p13)
noncomputable def Pj (a0 : List Ab) (is1 : Ab → Option Bool) (s : Int) : Option ((Int) ⊕ (Unit ⊕ Int)) :=
match s with
| p7 =>
if (decide (p7 < (a0.length : Int))) = true then
(Cg a0 p7).bind fun y16 =>
(is1 y16).bind fun r18 =>
if r18 = true then
some (.inr (.inr p7))
else
some (.inl (IntKind.i64.wrap (p7 + 1)))
else
some (.inr (.inl ()))
noncomputable def pJ (a0 : List Ab) (is1 : Ab → Option Bool) : Option Int :=
(Bm (Pj a0 is1) 0).bind fun r21 =>
(match r21 with
| .inl () =>
some (-1)
| .inr q => some q)
noncomputable def QT (a0 : List Ab) (is1 : Ab → Option Bool) : Option Bool :=
(pJ a0 is1).bind fun r1 =>
some (decide (r1 ≥ 0))
noncomputable def pI (a0 : Ab) (is1 : Ab → Option Bool) : Option Bool :=
(is1 a0).bind fun r1 =>
some (!r1)
noncomputable def g61 (a0 : List Ab) (is1 : Ab → Option Bool) : Option Bool :=
(QT a0 (fun z106_0 => pI z106_0 is1)).bind fun r1 =>
some (!r1)
noncomputable def g62 (a0 : Ab) (a1 : Ai) : Option Bool :=
(wL a0.Be 0 a0.cap).bind fun r1 =>
Bd ((bif r1 then (bif a0.Bt then true else (decide (a0.Be > a1.clock))) else false)) fun v3 =>
some v3
noncomputable def g20 (a0 : Ai) : Option Bool :=
(if ((decide (a0.clock ≥ 0)) == true) = true then g58 a0.next else some default).bind fun r1 =>
(if ((bif (bif (decide (a0.clock ≥ 0)) then r1 else false) then (decide ((a0.Ad.length : Int) ≤ 40)) else false) == true) = true then UU a0 else some default).bind fun r3 =>
(if ((bif (bif (decide (a0.clock ≥ 0)) then r1 else false) then (decide ((a0.Ad.length : Int) ≤ 40)) else false) == true) = true then g59 r3 1 (IntKind.i64.wrap (a0.next - 1)) else some default).bind fun r5 =>
(if ((bif (bif (bif (decide (a0.clock ≥ 0)) then r1 else false) then (decide ((a0.Ad.length : Int) ≤ 40)) else false) then r5 else false) == true) = true then g61 a0.Ad (fun z62_0 => g62 z62_0 a0) else some default).bind fun r7 =>
Bd ((bif (bif (bif (bif (decide (a0.clock ≥ 0)) then r1 else false) then (decide ((a0.Ad.length : Int) ≤ 40)) else false) then r5 else false) then r7 else false)) fun v9 =>
some v9
noncomputable def Yx (a0 : List Af) (s : (List Int) × Int) : Option (((List Int) × Int) ⊕ ((List Int))) :=
match s with
| (p5, p6) =>
if (decide (p6 < (a0.length : Int))) = true then
(Cg a0 p6).bind fun y15 =>
if (p5.length + ([y15.Av] : List Int).length) * 8 ≤ 140737488355328 then
some (.inl ((p5 ++ ([y15.Av] : List Int)), (IntKind.i64.wrap (p6 + 1))))
else none
else
some (.inr p5)
noncomputable def g95 (a0 : List Af) : Option (List Int) :=
(Bm (Yx a0) ([], 0)).bind fun r18 =>
(match r18 with
| p13 =>
some p13)
def RL (a0 : List Int) (a1 : Int) : Option (List Int) := if 0 ≤ a1 ∧ (a0.length : Int) + a1 ≤ 17592186044416 then some a0 else none
noncomputable def Wo (p7 : Int) (p20 : Int) : Option ((Int × Int) ⊕ (Int)) :=
some (.inl (p20, (IntKind.i64.wrap (p7 + 1))))
noncomputable def Kp (a0 : List (List Int)) (s : Int × Int) : Option ((Int × Int) ⊕ (Int)) :=
match s with
| (p6, p7) =>
if (decide (p7 < (a0.length : Int))) = true then
(Cg a0 p7).bind fun y22 =>
if (decide ((IntKind.i64.wrap (p6 + (y22.length : Int))) < 0)) = true then
none
else
Wo p7 (IntKind.i64.wrap (p6 + (y22.length : Int)))
else
some (.inr p6)
noncomputable def Kq (a0 : List (List Int)) (s : (List Int) × Int) : Option (((List Int) × Int) ⊕ ((List Int))) :=
match s with
| (p33, p34) =>
if (decide (p34 < (a0.length : Int))) = true then
(Cg a0 p34).bind fun y43 =>
if (p33.length + y43.length) * 8 ≤ 140737488355328 then
some (.inl ((p33 ++ y43), (IntKind.i64.wrap (p34 + 1))))
else none
else
some (.inr p33)
noncomputable def RE (a0 : List (List Int)) : Option (List Int) :=
(Bm (Kp a0) (0, 0)).bind fun r25 =>
(match r25 with
| p15 =>
(RL ([] : List Int) p15).bind fun r27 =>
(Bm (Kq a0) (r27, 0)).bind fun r46 =>
(match r46 with
| p41 =>
some p41))
noncomputable def mX (a0 : List Int) (is1 : Int → Option Bool) (s : Int) : Option ((Int) ⊕ (Unit ⊕ Int)) :=
match s with
| p7 =>
if (decide (p7 < (a0.length : Int))) = true then
(Cg a0 p7).bind fun y16 =>
(is1 y16).bind fun r18 =>
if r18 = true then
some (.inr (.inr p7))
else
some (.inl (IntKind.i64.wrap (p7 + 1)))
else
some (.inr (.inl ()))
noncomputable def vZ (a0 : List Int) (is1 : Int → Option Bool) : Option Int :=
(Bm (mX a0 is1) 0).bind fun r21 =>
(match r21 with
| .inl () =>
some (-1)
| .inr q => some q)
noncomputable def wA (a0 : Int) (a1 : List (Int × Bool)) : Option Bool :=
some (!(Kw a1 a0))
noncomputable def Uq (r5 : (List Int)) (s : Int × (List (Int × Bool))) : Option ((Int × (List (Int × Bool))) ⊕ ((List (Int × Bool)))) :=
match s with
| (p12, p13) =>
if (decide (p12 < (r5.length : Int))) = true then
(Cg r5 p12).bind fun y23 =>
(r5[p12.toNat]?).bind fun y25 =>
some (.inl ((IntKind.i64.wrap (p12 + 1)), (Qt p13 y25 true)))
else
some (.inr p13)
noncomputable def g96 (a0 : Ag) : Option (Int × Bool) :=
(UU a0.Ac).bind fun r1 =>
(g95 a0.Aa).bind fun r3 =>
(RE ([r1, r3] : List (List Int))).bind fun r5 =>
(Bm (Uq r5) (0, ([] : List (Int × Bool)))).bind fun r27 =>
(match r27 with
| p21 =>
(vZ a0.Ae (fun z128_0 => wA z128_0 p21)).bind fun r29 =>
if (decide (r29 < 0)) = true then
some (0, false)
else
(Cg a0.Ae r29).bind fun y32 =>
some (y32, true))
noncomputable def wB (a0 : List Int) (is1 : Int → Option Bool) : Option Bool :=
(vZ a0 is1).bind fun r1 =>
some (decide (r1 ≥ 0))
noncomputable def wC (a0 : Int) (is1 : Int → Option Bool) : Option Bool :=
(is1 a0).bind fun r1 =>
some (!r1)
noncomputable def g97 (a0 : List Int) (is1 : Int → Option Bool) : Option Bool :=
(wB a0 (fun z130_0 => wC z130_0 is1)).bind fun r1 =>
some (!r1)
noncomputable def Wm (a0 : List Ab) (a1 : Int) (is2 : Ab → Int → Option Int) (s : Int × Int) : Option ((Int × Int) ⊕ (Int)) :=
match s with
| (p9, p10) =>
if (decide (p9 < p10)) = true then
Bd (IntKind.i64.wrap (Jz .u64 (IntKind.u64.wrap (IntKind.i64.wrap (p9 + p10))) 1)) fun v23 =>
(Cg a0 v23).bind fun y25 =>
(is2 y25 a1).bind fun r27 =>
if (decide (r27 < 0)) = true then
some (.inl ((IntKind.i64.wrap (v23 + 1)), p10))
else
some (.inl (p9, v23))
else
some (.inr p9)
noncomputable def QV (a0 : List Ab) (a1 : Int) (is2 : Ab → Int → Option Int) : Option (Int × Bool) :=
(Bm (Wm a0 a1 is2) (0, (a0.length : Int))).bind fun r30 =>
(match r30 with
| p21 =>
(if ((decide (p21 < (a0.length : Int))) == true) = true then Cg a0 p21 else some default).bind fun y32 =>
(if ((decide (p21 < (a0.length : Int))) == true) = true then is2 y32 a1 else some default).bind fun r34 =>
some (p21, (bif (decide (p21 < (a0.length : Int))) then (r34 == 0) else false)))
noncomputable def gQ (a0 : Int) : Option Bool :=
some (a0 != a0)
noncomputable def pK (a0 : Int) (a1 : Int) : Option Int :=
(gQ a0).bind fun r1 =>
(gQ a1).bind fun r3 =>
if r1 = true then
if r3 = true then
some 0
else
some (-1)
else
if r3 = true then
some 1
else
if (decide (a0 < a1)) = true then
some (-1)
else
if (decide (a0 > a1)) = true then
some 1
else
some 0
noncomputable def pL (a0 : Ab) (a1 : Int) : Option Int :=
(pK a0.id a1).bind fun r1 =>
some r1
noncomputable def zZ (a0 : Ai) (a1 : Int) : Option (Int × Bool) :=
(QV a0.Ad a1 (fun z114_0 z114_1 => pL z114_0 z114_1)).bind fun r1 =>
some (r1.1, r1.2)
noncomputable def g98 (a0 : Int) (a1 : Ag) : Option Bool :=
(zZ a1.Ac a0).bind fun r1 =>
some (!r1.2)
noncomputable def g48 (a0 : Ag) : Option Bool :=
(g20 a0.Ac).bind fun r1 =>
(if ((bif (!r1) then true else (decide ((a0.Aa.length : Int) > 40))) == false) = true then g95 a0.Aa else some default).bind fun r3 =>
(if ((bif (!r1) then true else (decide ((a0.Aa.length : Int) > 40))) == false) = true then g59 r3 1 (IntKind.i64.wrap (a0.Ac.next - 1)) else some default).bind fun r5 =>
(if ((bif (bif (bif (!r1) then true else (decide ((a0.Aa.length : Int) > 40))) then true else (!r5)) then true else (decide ((a0.Ae.length : Int) > 80))) == false) = true then g59 a0.Ae 1 (IntKind.i64.wrap (a0.Ac.next - 1)) else some default).bind fun r7 =>
Bd ((bif (bif (bif (bif (!r1) then true else (decide ((a0.Aa.length : Int) > 40))) then true else (!r5)) then true else (decide ((a0.Ae.length : Int) > 80))) then true else (!r7))) fun v9 =>
if v9 = true then
some false
else
(g96 a0).bind fun r12 =>
(if ((!r12.2) == true) = true then g95 a0.Aa else some default).bind fun r14 =>
(if ((!r12.2) == true) = true then g97 r14 (fun z98_0 => g98 z98_0 a0) else some default).bind fun r16 =>
some (bif (!r12.2) then r16 else false)
noncomputable def Pu (a0 : Int) (s : (List UInt8) × Int) : Option (((List UInt8) × Int) ⊕ ((List UInt8))) :=
match s with
| (p6, p7) =>
if (decide (p7 ≥ 0)) = true then
if 0 ≤ (IntKind.i64.wrap (4 * p7)) then
(Cg ([48, 49, 50, 51, 52, 53, 54, 55, 56, 57, 97, 98, 99, 100, 101, 102] : List UInt8) (Sz .i64 (Jz .i64 a0 (IntKind.i64.wrap (4 * p7))) 15)).bind fun y18 =>
if (p6.length + ([y18] : List UInt8).length) * 1 ≤ 140737488355328 then
some (.inl ((p6 ++ ([y18] : List UInt8)), (IntKind.i64.wrap (p7 - 1))))
else none
else none
else
some (.inr p6)
noncomputable def eK (a0 : Int) : Option (List UInt8) :=
(Bm (Pu a0) ([], 15)).bind fun r21 =>
(match r21 with
| p15 =>
some p15)
noncomputable def pO (a0 : Bool) (a1 : List UInt8) (a2 : List UInt8) : Option (List UInt8) :=
if a0 = true then
some a1
else
some a2
noncomputable def Sq (a0 : Ag) (s : (List Bh) × Int) : Option (((List Bh) × Int) ⊕ ((List Bh))) :=
match s with
| (p12, p13) =>
if (decide (p13 < (a0.Aa.length : Int))) = true then
(Cg a0.Aa p13).bind fun y29 =>
(eK y29.Av).bind fun r31 =>
if ([105, 110, 116, 101, 110, 116, 47] : List UInt8).length + r31.length ≤ 9223372036854775807 then
(pO y29.Hl ([117, 110, 100, 111] : List UInt8) ([98, 101, 103, 117, 110] : List UInt8)).bind fun r34 =>
if (p12.length + ([(Bh.mk (([105, 110, 116, 101, 110, 116, 47] : List UInt8) ++ r31) r34)] : List Bh).length) * 32 ≤ 140737488355328 then
Bd (p12 ++ ([(Bh.mk (([105, 110, 116, 101, 110, 116, 47] : List UInt8) ++ r31) r34)] : List Bh)) fun v37 =>
some (.inl (v37, (IntKind.i64.wrap (p13 + 1))))
else none
else none
else
some (.inr p12)
noncomputable def Sr (a0 : Ag) (s : (List Bh) × Int) : Option (((List Bh) × Int) ⊕ ((List Bh))) :=
match s with
| (p58, p59) =>
if (decide (p59 < (a0.Ac.Ad.length : Int))) = true then
(Cg a0.Ac.Ad p59).bind fun y81 =>
(eK y81.id).bind fun r83 =>
if ([108, 101, 97, 115, 101, 47] : List UInt8).length + r83.length ≤ 9223372036854775807 then
(eK y81.Be).bind fun r86 =>
(eK y81.cap).bind fun r88 =>
if r86.length + r88.length ≤ 9223372036854775807 then
(pO y81.Bt ([113, 117, 101, 117, 101, 100] : List UInt8) ([108, 105, 118, 101] : List UInt8)).bind fun r91 =>
if (r86 ++ r88).length + r91.length ≤ 9223372036854775807 then
if (p58.length + ([(Bh.mk (([108, 101, 97, 115, 101, 47] : List UInt8) ++ r83) ((r86 ++ r88) ++ r91))] : List Bh).length) * 32 ≤ 140737488355328 then
Bd (p58 ++ ([(Bh.mk (([108, 101, 97, 115, 101, 47] : List UInt8) ++ r83) ((r86 ++ r88) ++ r91))] : List Bh)) fun v95 =>
some (.inl (v95, (IntKind.i64.wrap (p59 + 1))))
else none
else none
else none
else none
else
some (.inr p58)
noncomputable def SK (a0 : Ag) : Option (List Bh) :=
(Bm (Sq a0) ([], 0)).bind fun r39 =>
(match r39 with
| p27 =>
(Bm (Sr a0) (p27, 0)).bind fun r97 =>
(match r97 with
| p79 =>
(eK a0.Ac.clock).bind fun r99 =>
(eK a0.Ac.next).bind fun r101 =>
if r99.length + r101.length ≤ 9223372036854775807 then
(pO a0.Al ([115, 101, 97, 108, 101, 100] : List UInt8) ([111, 112, 101, 110] : List UInt8)).bind fun r104 =>
if (r99 ++ r101).length + r104.length ≤ 9223372036854775807 then
if (p79.length + ([(Bh.mk ([118, 97, 117, 108, 116] : List UInt8) ((r99 ++ r101) ++ r104))] : List Bh).length) * 32 ≤ 140737488355328 then
Bd (p79 ++ ([(Bh.mk ([118, 97, 117, 108, 116] : List UInt8) ((r99 ++ r101) ++ r104))] : List Bh)) fun v108 =>
some v108
else none
else none
else none))
noncomputable def SG (a0 : Ag) : Option ((List Bh) × Int) :=
(g48 a0).bind fun r1 =>
if (!r1) = true then
some ([], 1)
else
(SK a0).bind fun r4 =>
some (r4, 0)
noncomputable def g87 (a0 : List Int) : Option Bool :=
some (decide ((a0.length : Int) ≤ 4096))
def aT (a0 : List Int) : Option (List Int) := if ([] : List Int).length + a0.length ≤ 17592186044416 then some a0 else none
noncomputable def Ado (a0 : List Bh) : Option Bool :=
some (decide ((a0.length : Int) ≤ 4096))
noncomputable def SO (a0 : List UInt8) : Option Bool :=
(wL (a0.length : Int) 1 60).bind fun r1 =>
some r1
noncomputable def Pt (a0 : List Bh) (s : Int) : Option ((Int) ⊕ (Unit ⊕ Bool)) :=
match s with
| p11 =>
if (decide (p11 < (a0.length : Int))) = true then
(Cg a0 p11).bind fun y24 =>
(SO y24.key).bind fun r26 =>
(if (((bif (!r26) then true else (decide ((y24.value.length : Int) > 400))) == false) && ((decide (p11 > 0)) == true)) = true then Cg a0 (IntKind.i64.wrap (p11 - 1)) else some default).bind fun y28 =>
Bd ((bif (bif (!r26) then true else (decide ((y24.value.length : Int) > 400))) then true else (bif (decide (p11 > 0)) then (!(Op.bytesLess y28.key y24.key)) else false))) fun v30 =>
if v30 = true then
some (.inr (.inr false))
else
some (.inl (IntKind.i64.wrap (p11 + 1)))
else
some (.inr (.inl ()))
noncomputable def SM (a0 : List Bh) : Option Bool :=
(Bm (Pt a0) 0).bind fun r33 =>
(match r33 with
| .inl () =>
some (decide ((a0.length : Int) ≤ 100))
| .inr q => some q)
noncomputable def SR (a0 : List UInt8) (a1 : List UInt8) : Option Bool :=
(if ((decide ((a0.length : Int) ≥ (a1.length : Int))) == true) = true then Tv a0 0 (a1.length : Int) else some default).bind fun s1 =>
Bd ((bif (decide ((a0.length : Int) ≥ (a1.length : Int))) then (s1 == a1) else false)) fun v3 =>
some v3
noncomputable def SQ (a0 : List UInt8) (a1 : List UInt8) : Option ((List UInt8) × Bool) :=
(SR a0 a1).bind fun r1 =>
if (!r1) = true then
some (a0, false)
else
(Tv a0 (a1.length : Int) (a0.length : Int)).bind fun s4 =>
some (s4, true)
noncomputable def Vz (a0 : List UInt8) (a1 : List UInt8) : Option ((List UInt8) × Bool) :=
(SQ a0 a1).bind fun r1 =>
some (r1.1, r1.2)
noncomputable def Adp (a0 : List UInt8) (a1 : UInt8) : Option Int :=
some (Xw a0 ((a1).toNat : Int))
noncomputable def SN (a0 : List UInt8) (a1 : UInt8) : Option Int :=
(Adp a0 a1).bind fun r1 =>
some r1
noncomputable def Hs (s6 : List UInt8) (s : Int × Int) : Option ((Int × Int) ⊕ (Int ⊕ (Int × (List UInt8) × Bool))) :=
match s with
| (p14, p15) =>
if (decide (p15 < (s6.length : Int))) = true then
(Cg s6 p15).bind fun y26 =>
(SN ([48, 49, 50, 51, 52, 53, 54, 55, 56, 57, 97, 98, 99, 100, 101, 102] : List UInt8) y26).bind fun r28 =>
if (decide (r28 < 0)) = true then
some (.inr (.inr (0, ([] : List UInt8), false)))
else
some (.inl ((ior .i64 (Ut .i64 p14 4) r28), (IntKind.i64.wrap (p15 + 1))))
else
some (.inr (.inl p14))
noncomputable def aV (a0 : List UInt8) : Option (Int × (List UInt8) × Bool) :=
(if ((decide ((a0.length : Int) < 16)) == false) = true then Cg a0 0 else some default).bind fun y1 =>
Bd ((bif (decide ((a0.length : Int) < 16)) then true else (decide (((y1).toNat : Int) > 55)))) fun v3 =>
if v3 = true then
some (0, ([] : List UInt8), false)
else
(Tv a0 0 16).bind fun s6 =>
(Bm (Hs s6) (0, 0)).bind fun r31 =>
(match r31 with
| .inl p24 =>
(Tv a0 16 (a0.length : Int)).bind fun s33 =>
some (p24, s33, true)
| .inr q => some q)
noncomputable def gR (a0 : List UInt8) (a1 : List UInt8) (a2 : List UInt8) : Option (Int × Int × Bool × Bool) :=
(aV a0).bind fun r1 =>
(aV r1.2.1).bind fun r3 =>
Bd ((bif (bif r1.2.2 then r3.2.2 else false) then (bif (r3.2.1 == a1) then true else (r3.2.1 == a2)) else false)) fun v5 =>
some (r1.1, r3.1, (r3.2.1 == a1), v5)
noncomputable def aU (a0 : Ag) (a1 : Bh) : Option (Bool × Ag) :=
(Vz a1.key ([105, 110, 116, 101, 110, 116, 47] : List UInt8)).bind fun r1 =>
if r1.2 = true then
(aV r1.1).bind fun r4 =>
if (a0.Aa.length + ([(Af.mk r4.1 (a1.value == ([117, 110, 100, 111] : List UInt8)))] : List Af).length) * 16 ≤ 140737488355328 then
Bd (a0.Aa ++ ([(Af.mk r4.1 (a1.value == ([117, 110, 100, 111] : List UInt8)))] : List Af)) fun v7 =>
Bd ((bif (bif r4.2.2 then (r4.2.1 == ([] : List UInt8)) else false) then (bif (a1.value == ([117, 110, 100, 111] : List UInt8)) then true else (a1.value == ([98, 101, 103, 117, 110] : List UInt8))) else false)) fun v9 =>
some (v9, (Ag.mk a0.Ac v7 a0.Ae a0.Al))
else none
else
(Vz a1.key ([108, 101, 97, 115, 101, 47] : List UInt8)).bind fun r11 =>
if r11.2 = true then
(aV r11.1).bind fun r14 =>
(gR a1.value ([113, 117, 101, 117, 101, 100] : List UInt8) ([108, 105, 118, 101] : List UInt8)).bind fun r16 =>
if (a0.Ac.Ad.length + ([(Ab.mk r14.1 r16.1 r16.2.1 r16.2.2.1)] : List Ab).length) * 32 ≤ 140737488355328 then
Bd (a0.Ac.Ad ++ ([(Ab.mk r14.1 r16.1 r16.2.1 r16.2.2.1)] : List Ab)) fun v19 =>
Bd ((bif (bif r14.2.2 then (r14.2.1 == ([] : List UInt8)) else false) then r16.2.2.2 else false)) fun v21 =>
some (v21, (Ag.mk (Ai.mk a0.Ac.clock a0.Ac.next v19) a0.Aa a0.Ae a0.Al))
else none
else
(gR a1.value ([115, 101, 97, 108, 101, 100] : List UInt8) ([111, 112, 101, 110] : List UInt8)).bind fun r23 =>
Bd ((bif (a1.key == ([118, 97, 117, 108, 116] : List UInt8)) then r23.2.2.2 else false)) fun v25 =>
some (v25, (Ag.mk (Ai.mk r23.1 r23.2.1 a0.Ac.Ad) a0.Aa a0.Ae r23.2.2.1))
noncomputable def Pr (a0 : List Bh) (s : Int × Int × Int × (List Ab) × (List Af) × (List Int) × Bool) : Option ((Int × Int × Int × (List Ab) × (List Af) × (List Int) × Bool) ⊕ ((Int × Int × (List Ab) × (List Af) × (List Int) × Bool) ⊕ (Ag × Int))) :=
match s with
| (p17, p18, p19, p20, p21, p22, p23) =>
if (decide (p17 < (a0.length : Int))) = true then
(Cg a0 p17).bind fun y44 =>
(aU (Ag.mk (Ai.mk p18 p19 p20) p21 p22 p23) y44).bind fun r46 =>
if (!r46.1) = true then
some (.inr (.inr ((Ag.mk (Ai.mk 0 0 ([] : List Ab)) ([] : List Af) ([] : List Int) false), 3)))
else
some (.inl ((IntKind.i64.wrap (p17 + 1)), r46.2.Ac.clock, r46.2.Ac.next, r46.2.Ac.Ad, r46.2.Aa, r46.2.Ae, r46.2.Al))
else
some (.inr (.inl (p18, p19, p20, p21, p22, p23)))
noncomputable def SH (a0 : List Bh) (a1 : List Int) : Option (Ag × Int) :=
(Ado a0).bind fun r1 =>
(if ((!r1) == false) = true then g87 a1 else some default).bind fun r3 =>
if (bif (!r1) then true else (!r3)) = true then
some ((Ag.mk (Ai.mk 0 0 ([] : List Ab)) ([] : List Af) ([] : List Int) false), 2)
else
(SM a0).bind fun r6 =>
if (!r6) = true then
some ((Ag.mk (Ai.mk 0 0 ([] : List Ab)) ([] : List Af) ([] : List Int) false), 1)
else
(aT a1).bind fun r9 =>
(Bm (Pr a0) (0, 0, 0, ([] : List Ab), ([] : List Af), r9, false)).bind fun r49 =>
(match r49 with
| .inl (p37, p38, p39, p40, p41, p42) =>
(g48 (Ag.mk (Ai.mk p37 p38 p39) p40 p41 p42)).bind fun r51 =>
if (!r51) = true then
some ((Ag.mk (Ai.mk 0 0 ([] : List Ab)) ([] : List Af) ([] : List Int) false), 13)
else
some ((Ag.mk (Ai.mk p37 p38 p39) p40 p41 p42), 0)
| .inr q => some q)
noncomputable def So (a0 : List Bh) (a1 : List Bh) (s : Int) : Option ((Int) ⊕ (Unit ⊕ Bool)) :=
match s with
| p8 =>
if (decide (p8 < (a0.length : Int))) = true then
(Cg a0 p8).bind fun y17 =>
(Cg a1 p8).bind fun y19 =>
if (!((y17.key == y19.key) && ((y17.value == y19.value) && true))) = true then
some (.inr (.inr false))
else
some (.inl (IntKind.i64.wrap (p8 + 1)))
else
some (.inr (.inl ()))
noncomputable def SI (a0 : List Bh) (a1 : List Bh) : Option Bool :=
if ((a0.length : Int) != (a1.length : Int)) = true then
some false
else
(Bm (So a0 a1) 0).bind fun r22 =>
(match r22 with
| .inl () =>
some true
| .inr q => some q)
noncomputable def Yo (a0 : Ai) (a1 : Ai) (s : Int) : Option ((Int) ⊕ (Unit ⊕ Bool)) :=
match s with
| p12 =>
if (decide (p12 < (a0.Ad.length : Int))) = true then
(Cg a0.Ad p12).bind fun y23 =>
(Cg a1.Ad p12).bind fun y25 =>
Bd ((!((y23.id == y25.id) && ((y23.Be == y25.Be) && ((y23.cap == y25.cap) && ((y23.Bt == y25.Bt) && true)))))) fun v27 =>
if v27 = true then
some (.inr (.inr false))
else
some (.inl (IntKind.i64.wrap (p12 + 1)))
else
some (.inr (.inl ()))
noncomputable def g41 (a0 : Ai) (a1 : Ai) : Option Bool :=
Bd ((bif (bif (a0.clock != a1.clock) then true else (a0.next != a1.next)) then true else ((a0.Ad.length : Int) != (a1.Ad.length : Int)))) fun v1 =>
if v1 = true then
some false
else
(Bm (Yo a0 a1) 0).bind fun r30 =>
(match r30 with
| .inl () =>
some true
| .inr q => some q)
noncomputable def Yq (a0 : List Int) (a1 : List Int) (s : Int) : Option ((Int) ⊕ (Unit ⊕ Bool)) :=
match s with
| p8 =>
if (decide (p8 < (a0.length : Int))) = true then
(Cg a0 p8).bind fun y17 =>
(Cg a1 p8).bind fun y19 =>
if (y17 != y19) = true then
some (.inr (.inr false))
else
some (.inl (IntKind.i64.wrap (p8 + 1)))
else
some (.inr (.inl ()))
noncomputable def g52 (a0 : List Int) (a1 : List Int) : Option Bool :=
if ((a0.length : Int) != (a1.length : Int)) = true then
some false
else
(Bm (Yq a0 a1) 0).bind fun r22 =>
(match r22 with
| .inl () =>
some true
| .inr q => some q)
noncomputable def Sp (a0 : Ag) (a1 : Ag) (s : Int) : Option ((Int) ⊕ (Unit ⊕ Bool)) :=
match s with
| p14 =>
if (decide (p14 < (a0.Aa.length : Int))) = true then
(Cg a0.Aa p14).bind fun y23 =>
(Cg a1.Aa p14).bind fun y25 =>
if (!((y23.Av == y25.Av) && ((y23.Hl == y25.Hl) && true))) = true then
some (.inr (.inr false))
else
some (.inl (IntKind.i64.wrap (p14 + 1)))
else
some (.inr (.inl ()))
noncomputable def SJ (a0 : Ag) (a1 : Ag) : Option Bool :=
(g41 a0.Ac a1.Ac).bind fun r1 =>
(if ((bif (bif (!r1) then true else (!(a0.Al == a1.Al))) then true else ((a0.Aa.length : Int) != (a1.Aa.length : Int))) == false) = true then g52 a0.Ae a1.Ae else some default).bind fun r3 =>
Bd ((bif (bif (bif (!r1) then true else (!(a0.Al == a1.Al))) then true else ((a0.Aa.length : Int) != (a1.Aa.length : Int))) then true else (!r3))) fun v5 =>
if v5 = true then
some false
else
(Bm (Sp a0 a1) 0).bind fun r28 =>
(match r28 with
| .inl () =>
some true
| .inr q => some q)
noncomputable def Adn (a0 : List UInt8) : Option Bool :=
if (decide ((a0.length : Int) > 1048576)) = true then
some true
else
(g51 a0).bind fun r2 =>
(g50 r2).bind fun r4 =>
(SG r4.1).bind fun r6 =>
(SH r6.1 r4.1.Ae).bind fun r8 =>
(SF r4.1).bind fun r10 =>
(if ((bif (r6.2 == 0) then (r8.2 == 0) else false) == true) = true then SI r6.1 r10.1 else some default).bind fun r12 =>
(if ((bif (bif (r6.2 == 0) then (r8.2 == 0) else false) then r12 else false) == true) = true then SJ r8.1 r4.1 else some default).bind fun r14 =>
Bd ((bif (bif (bif (r6.2 == 0) then (r8.2 == 0) else false) then r12 else false) then r14 else false)) fun v16 =>
some v16
noncomputable def g54 (a0 : Int) (a1 : Int) : Option Int :=
if (decide (a0 > (IntKind.i64.wrap (9223372036854775807 - a1)))) = true then
some 9223372036854775807
else
some (IntKind.i64.wrap (a0 + a1))
def g66 (a0 : List Ab) : Option (List Ab) := if ([] : List Ab).length + a0.length ≤ 4398046511104 then some a0 else none
noncomputable def Wl (a0 : List Int) (s : Int) : Option ((Int) ⊕ (Unit ⊕ Int)) :=
match s with
| p5 =>
if (decide (p5 < (a0.length : Int))) = true then
(Cg a0 p5).bind fun y12 =>
if (y12 != 0) = true then
some (.inr (.inr y12))
else
some (.inl (IntKind.i64.wrap (p5 + 1)))
else
some (.inr (.inl ()))
noncomputable def AcX (a0 : List Int) : Option Int :=
(Bm (Wl a0) 0).bind fun r15 =>
(match r15 with
| .inl () =>
some 0
| .inr q => some q)
noncomputable def g69 (a0 : Ab) (a1 : Ab) : Option Int :=
(pK a0.Be a1.Be).bind fun r1 =>
(pK a0.id a1.id).bind fun r3 =>
(AcX ([r1, r3] : List Int)).bind fun r5 =>
some r5
noncomputable def gP (a0 : Ai) : Option Ai :=
(g66 a0.Ad).bind fun r1 =>
some (Ai.mk a0.clock a0.next r1)
noncomputable def g71 (a0 : Ai) (a1 : Int) (a2 : Int) : Option (Ai × Int × Int) :=
if (bif (decide (a1 < 1)) then true else (decide (a2 < a1))) = true then
some ((Ai.mk 0 0 ([] : List Ab)), 0, 4)
else
if (a0.clock == 9223372036854775807) = true then
some ((Ai.mk 0 0 ([] : List Ab)), 0, 11)
else
Bd ((bif ((a0.Ad.length : Int) == 40) then true else (a0.next == 1000000))) fun v3 =>
if v3 = true then
some ((Ai.mk 0 0 ([] : List Ab)), 0, 9)
else
(gP a0).bind fun r6 =>
(g54 a0.clock a1).bind fun r8 =>
(g54 a0.clock a2).bind fun r10 =>
if (r6.Ad.length + ([(Ab.mk a0.next r8 r10 false)] : List Ab).length) * 32 ≤ 140737488355328 then
some ((Ai.mk r6.clock (IntKind.i64.wrap (r6.next + 1)) (r6.Ad ++ ([(Ab.mk a0.next r8 r10 false)] : List Ab))), a0.next, 0)
else none
noncomputable def g75 (a0 : Ai) (a1 : Int) : Option (Ai × Int) :=
(zZ a0 a1).bind fun r1 =>
if (!r1.2) = true then
some ((Ai.mk 0 0 ([] : List Ab)), 5)
else
(gP a0).bind fun r4 =>
(Cg r4.Ad r1.1).bind fun y6 =>
(r4.Ad[r1.1.toNat]?).bind fun y8 =>
some ((Ai.mk r4.clock r4.next (r4.Ad.set r1.1.toNat (Ab.mk y8.id y8.Be y8.cap true))), 0)
def g115 (a0 : List Ab) (a1 : Int) (a2 : Int) : Option (List Ab) := if (0 ≤ a1 ∧ a1 ≤ a2 ∧ a2 ≤ (a0.length : Int)) ∧ a0.length ≤ 4398046511104 then some (a0.take a1.toNat ++ a0.drop a2.toNat) else none
noncomputable def g78 (a0 : Ai) (a1 : Int) : Option Ai :=
(gP a0).bind fun r1 =>
(g115 r1.Ad a1 (IntKind.i64.wrap (a1 + 1))).bind fun r3 =>
some (Ai.mk r1.clock r1.next r3)
noncomputable def g80 (a0 : Ai) (a1 : Int) (a2 : Int) : Option (Ai × Int) :=
(zZ a0 a1).bind fun r1 =>
if (decide (a2 < 1)) = true then
some ((Ai.mk 0 0 ([] : List Ab)), 4)
else
if (!r1.2) = true then
some ((Ai.mk 0 0 ([] : List Ab)), 5)
else
(Cg a0.Ad r1.1).bind fun y5 =>
if y5.Bt = true then
some ((Ai.mk 0 0 ([] : List Ab)), 13)
else
(gP a0).bind fun r8 =>
(Cg r8.Ad r1.1).bind fun y10 =>
(r8.Ad[r1.1.toNat]?).bind fun y12 =>
(g54 a0.clock a2).bind fun r14 =>
Bd (r8.Ad.set r1.1.toNat (Ab.mk y12.id (if y12.cap < r14 then y12.cap else r14) y12.cap y12.Bt)) fun v16 =>
some ((Ai.mk r8.clock r8.next v16), 0)
noncomputable def dP (a1 : Int) (is3 : Ab → Ab → Option Int) (s : (List Ab) × Int) : Option (((List Ab) × Int) ⊕ ((List Ab))) :=
match s with
| (p136, p137) =>
(if ((decide (p137 > a1)) == true) = true then Cg p136 p137 else some default).bind fun y164 =>
(if ((decide (p137 > a1)) == true) = true then p136[p137.toNat]? else some default).bind fun y166 =>
(if ((decide (p137 > a1)) == true) = true then Cg p136 (IntKind.i64.wrap (p137 - 1)) else some default).bind fun y168 =>
(if ((decide (p137 > a1)) == true) = true then p136[(IntKind.i64.wrap (p137 - 1)).toNat]? else some default).bind fun y170 =>
(if ((decide (p137 > a1)) == true) = true then is3 y166 y170 else some default).bind fun r172 =>
if (bif (decide (p137 > a1)) then (decide (r172 < 0)) else false) = true then
(Cg p136 (IntKind.i64.wrap (p137 - 1))).bind fun y175 =>
(p136[(IntKind.i64.wrap (p137 - 1)).toNat]?).bind fun y177 =>
(Cg p136 p137).bind fun y179 =>
(p136[p137.toNat]?).bind fun y181 =>
(Cg (p136.set p137.toNat y177) (IntKind.i64.wrap (p137 - 1))).bind fun y183 =>
((p136.set p137.toNat y177)[(IntKind.i64.wrap (p137 - 1)).toNat]?).bind fun y185 =>
some (.inl (((p136.set p137.toNat y177).set ((IntKind.i64.wrap (p137 - 1)).toNat) y181), (IntKind.i64.wrap (p137 - 1))))
else
some (.inr p136)
noncomputable def dO (a1 : Int) (a2 : Int) (is3 : Ab → Ab → Option Int) (s : (List Ab) × Int) : Option (((List Ab) × Int) ⊕ ((List Ab))) :=
match s with
| (p55, p56) =>
if (decide (p56 < a2)) = true then
(Bm (dP a1 is3) (p55, p56)).bind fun r187 =>
(match r187 with
| p163 =>
some (.inl (p163, (IntKind.i64.wrap (p56 + 1)))))
else
some (.inr p55)
noncomputable def Adb (a0 : List Ab) (a1 : Int) (a2 : Int) (is3 : Ab → Ab → Option Int) : Option (List Ab) :=
(Bm (dO a1 a2 is3) (a0, (IntKind.i64.wrap (a1 + 1)))).bind fun r189 =>
(match r189 with
| p111 =>
some p111)
noncomputable def Pq (a3 : Int) (is4 : Ab → Ab → Option Int) (p39 : List Ab) (p40 : Int) (p96 : Int) : Option (((List Ab) × Int) ⊕ ((List Ab) ⊕ (List Ab))) :=
(Cg p39 (IntKind.i64.wrap (a3 + p40))).bind fun y97 =>
(p39[(IntKind.i64.wrap (a3 + p40)).toNat]?).bind fun y99 =>
(Cg p39 (IntKind.i64.wrap (a3 + p96))).bind fun y101 =>
(p39[(IntKind.i64.wrap (a3 + p96)).toNat]?).bind fun y103 =>
(is4 y99 y103).bind fun r105 =>
if (!(decide (r105 < 0))) = true then
some (.inr (.inr p39))
else
(Cg p39 (IntKind.i64.wrap (a3 + p96))).bind fun y108 =>
(p39[(IntKind.i64.wrap (a3 + p96)).toNat]?).bind fun y110 =>
(Cg p39 (IntKind.i64.wrap (a3 + p40))).bind fun y112 =>
(p39[(IntKind.i64.wrap (a3 + p40)).toNat]?).bind fun y114 =>
(Cg (p39.set ((IntKind.i64.wrap (a3 + p40)).toNat) y110) (IntKind.i64.wrap (a3 + p96))).bind fun y116 =>
((p39.set ((IntKind.i64.wrap (a3 + p40)).toNat) y110)[(IntKind.i64.wrap (a3 + p96)).toNat]?).bind fun y118 =>
some (.inl (((p39.set ((IntKind.i64.wrap (a3 + p40)).toNat) y110).set ((IntKind.i64.wrap (a3 + p96)).toNat) y114), p96))
noncomputable def eF (a2 : Int) (a3 : Int) (is4 : Ab → Ab → Option Int) (s : (List Ab) × Int) : Option (((List Ab) × Int) ⊕ ((List Ab) ⊕ (List Ab))) :=
match s with
| (p39, p40) =>
if (decide ((IntKind.i64.wrap ((IntKind.i64.wrap (2 * p40)) + 1)) ≥ a2)) = true then
some (.inr (.inl p39))
else
(if ((decide ((IntKind.i64.wrap ((IntKind.i64.wrap ((IntKind.i64.wrap (2 * p40)) + 1)) + 1)) < a2)) == true) = true then Cg p39 (IntKind.i64.wrap (a3 + (IntKind.i64.wrap ((IntKind.i64.wrap (2 * p40)) + 1)))) else some default).bind fun y83 =>
(if ((decide ((IntKind.i64.wrap ((IntKind.i64.wrap ((IntKind.i64.wrap (2 * p40)) + 1)) + 1)) < a2)) == true) = true then p39[(IntKind.i64.wrap (a3 + (IntKind.i64.wrap ((IntKind.i64.wrap (2 * p40)) + 1)))).toNat]? else some default).bind fun y85 =>
(if ((decide ((IntKind.i64.wrap ((IntKind.i64.wrap ((IntKind.i64.wrap (2 * p40)) + 1)) + 1)) < a2)) == true) = true then Cg p39 (IntKind.i64.wrap ((IntKind.i64.wrap (a3 + (IntKind.i64.wrap ((IntKind.i64.wrap (2 * p40)) + 1)))) + 1)) else some default).bind fun y87 =>
(if ((decide ((IntKind.i64.wrap ((IntKind.i64.wrap ((IntKind.i64.wrap (2 * p40)) + 1)) + 1)) < a2)) == true) = true then p39[(IntKind.i64.wrap ((IntKind.i64.wrap (a3 + (IntKind.i64.wrap ((IntKind.i64.wrap (2 * p40)) + 1)))) + 1)).toNat]? else some default).bind fun y89 =>
(if ((decide ((IntKind.i64.wrap ((IntKind.i64.wrap ((IntKind.i64.wrap (2 * p40)) + 1)) + 1)) < a2)) == true) = true then is4 y85 y89 else some default).bind fun r91 =>
Bd ((bif (decide ((IntKind.i64.wrap ((IntKind.i64.wrap ((IntKind.i64.wrap (2 * p40)) + 1)) + 1)) < a2)) then (decide (r91 < 0)) else false)) fun v93 =>
if v93 = true then
Pq a3 is4 p39 p40 (IntKind.i64.wrap ((IntKind.i64.wrap ((IntKind.i64.wrap (2 * p40)) + 1)) + 1))
else
Pq a3 is4 p39 p40 (IntKind.i64.wrap ((IntKind.i64.wrap (2 * p40)) + 1))
noncomputable def SB (a0 : List Ab) (a1 : Int) (a2 : Int) (a3 : Int) (is4 : Ab → Ab → Option Int) : Option (List Ab) :=
(Bm (eF a2 a3 is4) (a0, a1)).bind fun r122 =>
(match r122 with
| .inl p81 =>
some p81
| .inr q => some q)
noncomputable def dQ (a1 : Int) (a2 : Int) (is3 : Ab → Ab → Option Int) (s : (List Ab) × Int) : Option (((List Ab) × Int) ⊕ ((List Ab))) :=
match s with
| (p7, p8) =>
if (decide (p8 ≥ 0)) = true then
(SB p7 p8 (IntKind.i64.wrap (a2 - a1)) a1 is3).bind fun r17 =>
if r17.length = p7.length then
some (.inl (r17, (IntKind.i64.wrap (p8 - 1))))
else none
else
some (.inr p7)
noncomputable def dR (a1 : Int) (is3 : Ab → Ab → Option Int) (s : (List Ab) × Int) : Option (((List Ab) × Int) ⊕ ((List Ab))) :=
match s with
| (p38, p39) =>
if (decide (p39 ≥ 0)) = true then
(Cg p38 (IntKind.i64.wrap (a1 + p39))).bind fun y60 =>
(p38[(IntKind.i64.wrap (a1 + p39)).toNat]?).bind fun y62 =>
(Cg p38 a1).bind fun y64 =>
(p38[a1.toNat]?).bind fun y66 =>
(Cg (p38.set a1.toNat y62) (IntKind.i64.wrap (a1 + p39))).bind fun y68 =>
((p38.set a1.toNat y62)[(IntKind.i64.wrap (a1 + p39)).toNat]?).bind fun y70 =>
(SB ((p38.set a1.toNat y62).set ((IntKind.i64.wrap (a1 + p39)).toNat) y66) 0 p39 a1 is3).bind fun r72 =>
if r72.length = ((p38.set a1.toNat y62).set ((IntKind.i64.wrap (a1 + p39)).toNat) y66).length then
some (.inl (r72, (IntKind.i64.wrap (p39 - 1))))
else none
else
some (.inr p38)
noncomputable def Adc (a0 : List Ab) (a1 : Int) (a2 : Int) (is3 : Ab → Ab → Option Int) : Option (List Ab) :=
Bd (IntKind.i64.wrap (((IntKind.i64.wrap ((IntKind.i64.wrap (a2 - a1)) - 1))).tdiv 2)) fun v1 =>
(Bm (dQ a1 a2 is3) (a0, v1)).bind fun r20 =>
(match r20 with
| p15 =>
(Bm (dR a1 is3) (p15, (IntKind.i64.wrap ((IntKind.i64.wrap (a2 - a1)) - 1)))).bind fun r75 =>
(match r75 with
| p58 =>
some p58))
noncomputable def nE (p5 : Int) (p6 : Int) : Option Int :=
(Cg ([0, 1, 2, 2, 3, 3, 3, 3, 4, 4, 4, 4, 4, 4, 4, 4, 5, 5, 5, 5, 5, 5, 5, 5, 5, 5, 5, 5, 5, 5, 5, 5, 6, 6, 6, 6, 6, 6, 6, 6, 6, 6, 6, 6, 6, 6, 6, 6, 6, 6, 6, 6, 6, 6, 6, 6, 6, 6, 6, 6, 6, 6, 6, 6, 7, 7, 7, 7, 7, 7, 7, 7, 7, 7, 7, 7, 7, 7, 7, 7, 7, 7, 7, 7, 7, 7, 7, 7, 7, 7, 7, 7, 7, 7, 7, 7, 7, 7, 7, 7, 7, 7, 7, 7, 7, 7, 7, 7, 7, 7, 7, 7, 7, 7, 7, 7, 7, 7, 7, 7, 7, 7, 7, 7, 7, 7, 7, 7, 8, 8, 8, 8, 8, 8, 8, 8, 8, 8, 8, 8, 8, 8, 8, 8, 8, 8, 8, 8, 8, 8, 8, 8, 8, 8, 8, 8, 8, 8, 8, 8, 8, 8, 8, 8, 8, 8, 8, 8, 8, 8, 8, 8, 8, 8, 8, 8, 8, 8, 8, 8, 8, 8, 8, 8, 8, 8, 8, 8, 8, 8, 8, 8, 8, 8, 8, 8, 8, 8, 8, 8, 8, 8, 8, 8, 8, 8, 8, 8, 8, 8, 8, 8, 8, 8, 8, 8, 8, 8, 8, 8, 8, 8, 8, 8, 8, 8, 8, 8, 8, 8, 8, 8, 8, 8, 8, 8, 8, 8, 8, 8, 8, 8, 8, 8, 8, 8, 8, 8, 8, 8, 8, 8, 8, 8, 8, 8] : List UInt8) ((b8 p5).toNat : Int)).bind fun y7 =>
some (IntKind.i64.wrap (p6 + (IntKind.i64.wrap ((y7).toNat : Int))))
noncomputable def nD (p2 : Int) (p3 : Int) : Option Int :=
if (decide (p2 ≥ 256)) = true then
nE (Jz .u32 p2 8) (IntKind.i64.wrap (p3 + 8))
else
nE p2 p3
noncomputable def g156 (a0 : Int) : Option Int :=
if (decide (a0 ≥ 65536)) = true then
nD (Jz .u32 a0 16) 16
else
nD a0 0
noncomputable def Xb (p8 : Int) (p9 : Int) : Option Int :=
(Cg ([0, 1, 2, 2, 3, 3, 3, 3, 4, 4, 4, 4, 4, 4, 4, 4, 5, 5, 5, 5, 5, 5, 5, 5, 5, 5, 5, 5, 5, 5, 5, 5, 6, 6, 6, 6, 6, 6, 6, 6, 6, 6, 6, 6, 6, 6, 6, 6, 6, 6, 6, 6, 6, 6, 6, 6, 6, 6, 6, 6, 6, 6, 6, 6, 7, 7, 7, 7, 7, 7, 7, 7, 7, 7, 7, 7, 7, 7, 7, 7, 7, 7, 7, 7, 7, 7, 7, 7, 7, 7, 7, 7, 7, 7, 7, 7, 7, 7, 7, 7, 7, 7, 7, 7, 7, 7, 7, 7, 7, 7, 7, 7, 7, 7, 7, 7, 7, 7, 7, 7, 7, 7, 7, 7, 7, 7, 7, 7, 8, 8, 8, 8, 8, 8, 8, 8, 8, 8, 8, 8, 8, 8, 8, 8, 8, 8, 8, 8, 8, 8, 8, 8, 8, 8, 8, 8, 8, 8, 8, 8, 8, 8, 8, 8, 8, 8, 8, 8, 8, 8, 8, 8, 8, 8, 8, 8, 8, 8, 8, 8, 8, 8, 8, 8, 8, 8, 8, 8, 8, 8, 8, 8, 8, 8, 8, 8, 8, 8, 8, 8, 8, 8, 8, 8, 8, 8, 8, 8, 8, 8, 8, 8, 8, 8, 8, 8, 8, 8, 8, 8, 8, 8, 8, 8, 8, 8, 8, 8, 8, 8, 8, 8, 8, 8, 8, 8, 8, 8, 8, 8, 8, 8, 8, 8, 8, 8, 8, 8, 8, 8, 8, 8, 8, 8, 8, 8] : List UInt8) ((b8 p8).toNat : Int)).bind fun y10 =>
some (IntKind.i64.wrap (p9 + (IntKind.i64.wrap ((y10).toNat : Int))))
noncomputable def Xa (p5 : Int) (p6 : Int) : Option Int :=
if (decide (p5 ≥ 256)) = true then
Xb (Jz .u64 p5 8) (IntKind.i64.wrap (p6 + 8))
else
Xb p5 p6
noncomputable def eE (p2 : Int) (p3 : Int) : Option Int :=
if (decide (p2 ≥ 65536)) = true then
Xa (Jz .u64 p2 16) (IntKind.i64.wrap (p3 + 16))
else
Xa p2 p3
noncomputable def Adi (a0 : Int) : Option Int :=
if (decide (a0 ≥ 4294967296)) = true then
eE (Jz .u64 a0 32) 32
else
eE a0 0
noncomputable def RJ (a0 : Int) : Option Int :=
if false = true then
(g156 (IntKind.u32.wrap a0)).bind fun r2 =>
some r2
else
(Adi a0).bind fun r4 =>
some r4
noncomputable def Adj (a0 : Int) : Option Int :=
(RJ (IntKind.u64.wrap a0)).bind fun r1 =>
if 0 ≤ r1 then
some (Ut .u64 1 r1)
else none
noncomputable def Adk (a0 : Int) : Option (Int × Int) :=
Bd (gZ .u64 (gZ .u64 a0 (Ut .u64 a0 13)) (Jz .u64 (gZ .u64 a0 (Ut .u64 a0 13)) 7)) fun v1 =>
some (gZ .u64 v1 (Ut .u64 v1 17), gZ .u64 v1 (Ut .u64 v1 17))
noncomputable def Wu (a1 : Int) (p27 : List Ab) (p28 : Int) (r58 : Int × Int) (p63 : Int) : Option (((List Ab) × Int × Int) ⊕ ((List Ab))) :=
(Cg p27 (IntKind.i64.wrap (a1 + p63))).bind fun y64 =>
(p27[(IntKind.i64.wrap (a1 + p63)).toNat]?).bind fun y66 =>
(Cg p27 p28).bind fun y68 =>
(p27[p28.toNat]?).bind fun y70 =>
(Cg (p27.set p28.toNat y66) (IntKind.i64.wrap (a1 + p63))).bind fun y72 =>
((p27.set p28.toNat y66)[(IntKind.i64.wrap (a1 + p63)).toNat]?).bind fun y74 =>
some (.inl (((p27.set p28.toNat y66).set ((IntKind.i64.wrap (a1 + p63)).toNat) y70), (IntKind.i64.wrap (p28 + 1)), r58.2))
noncomputable def dS (a1 : Int) (a2 : Int) (r2 : Int) (s : (List Ab) × Int × Int) : Option (((List Ab) × Int × Int) ⊕ ((List Ab))) :=
match s with
| (p27, p28, p29) =>
Bd ((decide (p28 ≤ (IntKind.i64.wrap ((IntKind.i64.wrap (a1 + (IntKind.i64.wrap ((IntKind.i64.wrap (((IntKind.i64.wrap (a2 - a1))).tdiv 4)) * 2)))) + 1))))) fun v55 =>
if v55 = true then
(Adk p29).bind fun r58 =>
Bd ((decide ((IntKind.i64.wrap (Sz .u64 r58.1 (IntKind.u64.wrap (r2 - 1)))) ≥ (IntKind.i64.wrap (a2 - a1))))) fun v60 =>
if v60 = true then
Wu a1 p27 p28 r58 (IntKind.i64.wrap ((IntKind.i64.wrap (Sz .u64 r58.1 (IntKind.u64.wrap (r2 - 1)))) - (IntKind.i64.wrap (a2 - a1))))
else
Wu a1 p27 p28 r58 (IntKind.i64.wrap (Sz .u64 r58.1 (IntKind.u64.wrap (r2 - 1))))
else
some (.inr p27)
noncomputable def wE (a0 : List Ab) (a1 : Int) (a2 : Int) (is3 : Ab → Ab → Option Int) : Option (List Ab) :=
if (decide ((IntKind.i64.wrap (a2 - a1)) ≥ 8)) = true then
(Adj (IntKind.i64.wrap (a2 - a1))).bind fun r2 =>
Bd (IntKind.i64.wrap ((IntKind.i64.wrap (a1 + (IntKind.i64.wrap ((IntKind.i64.wrap (((IntKind.i64.wrap (a2 - a1))).tdiv 4)) * 2)))) - 1)) fun v4 =>
(Bm (dS a1 a2 r2) (a0, v4, (IntKind.u64.wrap (IntKind.i64.wrap (a2 - a1))))).bind fun r78 =>
(match r78 with
| p54 =>
some p54)
else
some a0
noncomputable def wG (a0 : List Ab) (a1 : Int) (a2 : Int) (a3 : Int) (is4 : Ab → Ab → Option Int) : Option (Int × Int × Int) :=
(Cg a0 a2).bind fun y1 =>
(Cg a0 a1).bind fun y3 =>
(is4 y1 y3).bind fun r5 =>
if (decide (r5 < 0)) = true then
some (a2, a1, IntKind.i64.wrap (a3 + 1))
else
some (a1, a2, a3)
noncomputable def SE (a0 : List Ab) (a1 : Int) (a2 : Int) (a3 : Int) (a4 : Int) (is5 : Ab → Ab → Option Int) : Option (Int × Int) :=
(wG a0 a1 a2 a4 is5).bind fun r1 =>
(wG a0 r1.2.1 a3 r1.2.2 is5).bind fun r3 =>
(wG a0 r1.1 r3.1 r3.2.2 is5).bind fun r5 =>
some (r5.2.1, r5.2.2)
noncomputable def wF (a0 : List Ab) (a1 : Int) (a2 : Int) (is3 : Ab → Ab → Option Int) : Option (Int × Int) :=
(SE a0 (IntKind.i64.wrap (a1 - 1)) a1 (IntKind.i64.wrap (a1 + 1)) a2 is3).bind fun r1 =>
some (r1.1, r1.2)
noncomputable def Wv (p21 : Int) (p22 : Int) : Option (Int × Int) :=
if (p22 == 0) = true then
some (p21, 1)
else
if (p22 == 12) = true then
some (p21, 2)
else
some (p21, 0)
noncomputable def Ww (a0 : List Ab) (is3 : Ab → Ab → Option Int) (p34 : Int) (p35 : Int) (p36 : Int) (p37 : Int) : Option (Int × Int) :=
(SE a0 p34 p35 p36 p37 is3).bind fun r38 =>
Wv r38.1 r38.2
noncomputable def Ade (a0 : List Ab) (a1 : Int) (a2 : Int) (is3 : Ab → Ab → Option Int) : Option (Int × Int) :=
Bd (IntKind.i64.wrap (a1 + (IntKind.i64.wrap ((IntKind.i64.wrap (((IntKind.i64.wrap (a2 - a1))).tdiv 4)) * 1)))) fun v1 =>
Bd (IntKind.i64.wrap (a1 + (IntKind.i64.wrap ((IntKind.i64.wrap (((IntKind.i64.wrap (a2 - a1))).tdiv 4)) * 2)))) fun v3 =>
Bd (IntKind.i64.wrap (a1 + (IntKind.i64.wrap ((IntKind.i64.wrap (((IntKind.i64.wrap (a2 - a1))).tdiv 4)) * 3)))) fun v5 =>
if (decide ((IntKind.i64.wrap (a2 - a1)) ≥ 8)) = true then
if (decide ((IntKind.i64.wrap (a2 - a1)) ≥ 50)) = true then
(wF a0 v1 0 is3).bind fun r42 =>
(wF a0 v3 r42.2 is3).bind fun r44 =>
(wF a0 v5 r44.2 is3).bind fun r46 =>
Ww a0 is3 r42.1 r44.1 r46.1 r46.2
else
Ww a0 is3 v1 v3 v5 0
else
Wv v3 0
noncomputable def dT  (s : (List Ab) × Int × Int) : Option (((List Ab) × Int × Int) ⊕ ((List Ab))) :=
match s with
| (p14, p15, p16) =>
if (decide (p15 < p16)) = true then
(Cg p14 p16).bind fun y35 =>
(p14[p16.toNat]?).bind fun y37 =>
(Cg p14 p15).bind fun y39 =>
(p14[p15.toNat]?).bind fun y41 =>
(Cg (p14.set p15.toNat y37) p16).bind fun y43 =>
((p14.set p15.toNat y37)[p16.toNat]?).bind fun y45 =>
some (.inl (((p14.set p15.toNat y37).set p16.toNat y41), (IntKind.i64.wrap (p15 + 1)), (IntKind.i64.wrap (p16 - 1))))
else
some (.inr p14)
noncomputable def Adf (a0 : List Ab) (a1 : Int) (a2 : Int) (is3 : Ab → Ab → Option Int) : Option (List Ab) :=
(Bm (dT) (a0, a1, (IntKind.i64.wrap (a2 - 1)))).bind fun r47 =>
(match r47 with
| p33 =>
some p33)
noncomputable def dU (p156 : Int) (p465 : List Ab) (p466 : Int) : Option (((List Ab) × Int × Int) ⊕ ((List Ab) ⊕ (Bool × (List Ab)))) :=
some (.inl (p465, p466, (IntKind.i64.wrap (p156 + 1))))
noncomputable def dW (a2 : Int) (is3 : Ab → Ab → Option Int) (p154 : List Ab) (s : Int) : Option ((Int) ⊕ (Int)) :=
match s with
| p479 =>
(if ((decide (p479 < a2)) == true) = true then Cg p154 p479 else some default).bind fun y493 =>
(if ((decide (p479 < a2)) == true) = true then p154[p479.toNat]? else some default).bind fun y495 =>
(if ((decide (p479 < a2)) == true) = true then Cg p154 (IntKind.i64.wrap (p479 - 1)) else some default).bind fun y497 =>
(if ((decide (p479 < a2)) == true) = true then p154[(IntKind.i64.wrap (p479 - 1)).toNat]? else some default).bind fun y499 =>
(if ((decide (p479 < a2)) == true) = true then is3 y495 y499 else some default).bind fun r501 =>
if (bif (decide (p479 < a2)) then (!(decide (r501 < 0))) else false) = true then
some (.inl (IntKind.i64.wrap (p479 + 1)))
else
some (.inr p479)
noncomputable def dX (a2 : Int) (is3 : Ab → Ab → Option Int) (s : (List Ab) × Int) : Option (((List Ab) × Int) ⊕ ((List Ab))) :=
match s with
| (p602, p603) =>
if (decide (p603 < a2)) = true then
(Cg p602 p603).bind fun y632 =>
(p602[p603.toNat]?).bind fun y634 =>
(Cg p602 (IntKind.i64.wrap (p603 - 1))).bind fun y636 =>
(p602[(IntKind.i64.wrap (p603 - 1)).toNat]?).bind fun y638 =>
(is3 y634 y638).bind fun r640 =>
if (!(decide (r640 < 0))) = true then
some (.inr p602)
else
(Cg p602 (IntKind.i64.wrap (p603 - 1))).bind fun y643 =>
(p602[(IntKind.i64.wrap (p603 - 1)).toNat]?).bind fun y645 =>
(Cg p602 p603).bind fun y647 =>
(p602[p603.toNat]?).bind fun y649 =>
(Cg (p602.set p603.toNat y645) (IntKind.i64.wrap (p603 - 1))).bind fun y651 =>
((p602.set p603.toNat y645)[(IntKind.i64.wrap (p603 - 1)).toNat]?).bind fun y653 =>
some (.inl (((p602.set p603.toNat y645).set ((IntKind.i64.wrap (p603 - 1)).toNat) y649), (IntKind.i64.wrap (p603 + 1))))
else
some (.inr p602)
noncomputable def Wx (a2 : Int) (is3 : Ab → Ab → Option Int) (p156 : Int) (p492 : Int) (p576 : List Ab) : Option (((List Ab) × Int × Int) ⊕ ((List Ab) ⊕ (Bool × (List Ab)))) :=
if (decide ((IntKind.i64.wrap (a2 - p492)) ≥ 2)) = true then
(Bm (dX a2 is3) (p576, (IntKind.i64.wrap (p492 + 1)))).bind fun r655 =>
(match r655 with
| p630 =>
dU p156 p630 p492)
else
dU p156 p576 p492
noncomputable def dY (is3 : Ab → Ab → Option Int) (s : (List Ab) × Int) : Option (((List Ab) × Int) ⊕ ((List Ab))) :=
match s with
| (p683, p684) =>
if (decide (p684 ≥ 1)) = true then
(Cg p683 p684).bind fun y713 =>
(p683[p684.toNat]?).bind fun y715 =>
(Cg p683 (IntKind.i64.wrap (p684 - 1))).bind fun y717 =>
(p683[(IntKind.i64.wrap (p684 - 1)).toNat]?).bind fun y719 =>
(is3 y715 y719).bind fun r721 =>
if (!(decide (r721 < 0))) = true then
some (.inr p683)
else
(Cg p683 (IntKind.i64.wrap (p684 - 1))).bind fun y724 =>
(p683[(IntKind.i64.wrap (p684 - 1)).toNat]?).bind fun y726 =>
(Cg p683 p684).bind fun y728 =>
(p683[p684.toNat]?).bind fun y730 =>
(Cg (p683.set p684.toNat y726) (IntKind.i64.wrap (p684 - 1))).bind fun y732 =>
((p683.set p684.toNat y726)[(IntKind.i64.wrap (p684 - 1)).toNat]?).bind fun y734 =>
some (.inl (((p683.set p684.toNat y726).set ((IntKind.i64.wrap (p684 - 1)).toNat) y730), (IntKind.i64.wrap (p684 - 1))))
else
some (.inr p683)
noncomputable def dV (a1 : Int) (a2 : Int) (is3 : Ab → Ab → Option Int) (s : (List Ab) × Int × Int) : Option (((List Ab) × Int × Int) ⊕ ((List Ab) ⊕ (Bool × (List Ab)))) :=
match s with
| (p154, p155, p156) =>
if (decide (p156 < 5)) = true then
(Bm (dW a2 is3 p154) p155).bind fun r504 =>
(match r504 with
| p492 =>
if (p492 == a2) = true then
some (.inr (.inr (true, p154)))
else
if (decide ((IntKind.i64.wrap (a2 - a1)) < 50)) = true then
some (.inr (.inr (false, p154)))
else
(Cg p154 (IntKind.i64.wrap (p492 - 1))).bind fun y508 =>
(p154[(IntKind.i64.wrap (p492 - 1)).toNat]?).bind fun y510 =>
(Cg p154 p492).bind fun y512 =>
(p154[p492.toNat]?).bind fun y514 =>
(Cg (p154.set p492.toNat y510) (IntKind.i64.wrap (p492 - 1))).bind fun y516 =>
((p154.set p492.toNat y510)[(IntKind.i64.wrap (p492 - 1)).toNat]?).bind fun y518 =>
Bd ((p154.set p492.toNat y510).set ((IntKind.i64.wrap (p492 - 1)).toNat) y514) fun v520 =>
if (decide ((IntKind.i64.wrap (p492 - a1)) ≥ 2)) = true then
(Bm (dY is3) (v520, (IntKind.i64.wrap (p492 - 1)))).bind fun r736 =>
(match r736 with
| p711 =>
Wx a2 is3 p156 p492 p711)
else
Wx a2 is3 p156 p492 v520)
else
some (.inr (.inl p154))
noncomputable def Adg (a0 : List Ab) (a1 : Int) (a2 : Int) (is3 : Ab → Ab → Option Int) : Option (Bool × (List Ab)) :=
(Bm (dV a1 a2 is3) (a0, (IntKind.i64.wrap (a1 + 1)), 0)).bind fun r738 =>
(match r738 with
| .inl p313 =>
some (false, p313)
| .inr q => some q)
noncomputable def eA (a1 : Int) (is4 : Ab → Ab → Option Int) (p84 : List Ab) (p86 : Int) (s : Int) : Option ((Int) ⊕ (Int)) :=
match s with
| p166 =>
(if ((decide (p166 ≤ p86)) == true) = true then Cg p84 a1 else some default).bind fun y180 =>
(if ((decide (p166 ≤ p86)) == true) = true then p84[a1.toNat]? else some default).bind fun y182 =>
(if ((decide (p166 ≤ p86)) == true) = true then Cg p84 p166 else some default).bind fun y184 =>
(if ((decide (p166 ≤ p86)) == true) = true then p84[p166.toNat]? else some default).bind fun y186 =>
(if ((decide (p166 ≤ p86)) == true) = true then is4 y182 y186 else some default).bind fun r188 =>
if (bif (decide (p166 ≤ p86)) then (!(decide (r188 < 0))) else false) = true then
some (.inl (IntKind.i64.wrap (p166 + 1)))
else
some (.inr p166)
noncomputable def eC (a1 : Int) (is4 : Ab → Ab → Option Int) (p84 : List Ab) (p179 : Int) (s : Int) : Option ((Int) ⊕ (Int)) :=
match s with
| p204 =>
(if ((decide (p179 ≤ p204)) == true) = true then Cg p84 a1 else some default).bind fun y218 =>
(if ((decide (p179 ≤ p204)) == true) = true then p84[a1.toNat]? else some default).bind fun y220 =>
(if ((decide (p179 ≤ p204)) == true) = true then Cg p84 p204 else some default).bind fun y222 =>
(if ((decide (p179 ≤ p204)) == true) = true then p84[p204.toNat]? else some default).bind fun y224 =>
(if ((decide (p179 ≤ p204)) == true) = true then is4 y220 y224 else some default).bind fun r226 =>
if (bif (decide (p179 ≤ p204)) then (decide (r226 < 0)) else false) = true then
some (.inl (IntKind.i64.wrap (p204 - 1)))
else
some (.inr p204)
noncomputable def dZ (a1 : Int) (is4 : Ab → Ab → Option Int) (s : (List Ab) × Int × Int) : Option (((List Ab) × Int × Int) ⊕ ((List Ab) × Int)) :=
match s with
| (p84, p85, p86) =>
(Bm (eA a1 is4 p84 p86) p85).bind fun r191 =>
(match r191 with
| p179 =>
(Bm (eC a1 is4 p84 p179) p86).bind fun r229 =>
(match r229 with
| p217 =>
if (decide (p179 > p217)) = true then
some (.inr (p84, p179))
else
(Cg p84 p217).bind fun y232 =>
(p84[p217.toNat]?).bind fun y234 =>
(Cg p84 p179).bind fun y236 =>
(p84[p179.toNat]?).bind fun y238 =>
(Cg (p84.set p179.toNat y234) p217).bind fun y240 =>
((p84.set p179.toNat y234)[p217.toNat]?).bind fun y242 =>
some (.inl (((p84.set p179.toNat y234).set p217.toNat y238), (IntKind.i64.wrap (p179 + 1)), (IntKind.i64.wrap (p217 - 1))))))
noncomputable def Adh (a0 : List Ab) (a1 : Int) (a2 : Int) (a3 : Int) (is4 : Ab → Ab → Option Int) : Option (Int × (List Ab)) :=
(Cg a0 a3).bind fun y1 =>
(a0[a3.toNat]?).bind fun y3 =>
(Cg a0 a1).bind fun y5 =>
(a0[a1.toNat]?).bind fun y7 =>
(Cg (a0.set a1.toNat y3) a3).bind fun y9 =>
((a0.set a1.toNat y3)[a3.toNat]?).bind fun y11 =>
(Bm (dZ a1 is4) (((a0.set a1.toNat y3).set a3.toNat y7), (IntKind.i64.wrap (a1 + 1)), (IntKind.i64.wrap (a2 - 1)))).bind fun r244 =>
(match r244 with
| (p153, p154) =>
some (p154, p153))
noncomputable def nB (a0 : List Ab) (a1 : Int) (a2 : Int) (a3 : Int) (is4 : Ab → Ab → Option Int) (y3 : Ab) (y7 : Ab) (s : Int) : Option ((Int) ⊕ (Int)) :=
match s with
| p26 =>
(if ((decide (p26 ≤ (IntKind.i64.wrap (a2 - 1)))) == true) = true then Cg ((a0.set a1.toNat y3).set a3.toNat y7) p26 else some default).bind fun y42 =>
(if ((decide (p26 ≤ (IntKind.i64.wrap (a2 - 1)))) == true) = true then ((a0.set a1.toNat y3).set a3.toNat y7)[p26.toNat]? else some default).bind fun y44 =>
(if ((decide (p26 ≤ (IntKind.i64.wrap (a2 - 1)))) == true) = true then Cg ((a0.set a1.toNat y3).set a3.toNat y7) a1 else some default).bind fun y46 =>
(if ((decide (p26 ≤ (IntKind.i64.wrap (a2 - 1)))) == true) = true then ((a0.set a1.toNat y3).set a3.toNat y7)[a1.toNat]? else some default).bind fun y48 =>
(if ((decide (p26 ≤ (IntKind.i64.wrap (a2 - 1)))) == true) = true then is4 y44 y48 else some default).bind fun r50 =>
Bd ((bif (decide (p26 ≤ (IntKind.i64.wrap (a2 - 1)))) then (decide (r50 < 0)) else false)) fun v52 =>
if v52 = true then
some (.inl (IntKind.i64.wrap (p26 + 1)))
else
some (.inr p26)
noncomputable def nC (a0 : List Ab) (a1 : Int) (a3 : Int) (is4 : Ab → Ab → Option Int) (y3 : Ab) (y7 : Ab) (p41 : Int) (s : Int) : Option ((Int) ⊕ (Int)) :=
match s with
| p70 =>
(if ((decide (p41 ≤ p70)) == true) = true then Cg ((a0.set a1.toNat y3).set a3.toNat y7) p70 else some default).bind fun y84 =>
(if ((decide (p41 ≤ p70)) == true) = true then ((a0.set a1.toNat y3).set a3.toNat y7)[p70.toNat]? else some default).bind fun y86 =>
(if ((decide (p41 ≤ p70)) == true) = true then Cg ((a0.set a1.toNat y3).set a3.toNat y7) a1 else some default).bind fun y88 =>
(if ((decide (p41 ≤ p70)) == true) = true then ((a0.set a1.toNat y3).set a3.toNat y7)[a1.toNat]? else some default).bind fun y90 =>
(if ((decide (p41 ≤ p70)) == true) = true then is4 y86 y90 else some default).bind fun r92 =>
if (bif (decide (p41 ≤ p70)) then (!(decide (r92 < 0))) else false) = true then
some (.inl (IntKind.i64.wrap (p70 - 1)))
else
some (.inr p70)
noncomputable def Wy (a1 : Int) (is4 : Ab → Ab → Option Int) (p195 : List Ab) (p197 : Int) (s : Int) : Option ((Int) ⊕ (Int)) :=
match s with
| p277 =>
(if ((decide (p277 ≤ p197)) == true) = true then Cg p195 p277 else some default).bind fun y291 =>
(if ((decide (p277 ≤ p197)) == true) = true then p195[p277.toNat]? else some default).bind fun y293 =>
(if ((decide (p277 ≤ p197)) == true) = true then Cg p195 a1 else some default).bind fun y295 =>
(if ((decide (p277 ≤ p197)) == true) = true then p195[a1.toNat]? else some default).bind fun y297 =>
(if ((decide (p277 ≤ p197)) == true) = true then is4 y293 y297 else some default).bind fun r299 =>
if (bif (decide (p277 ≤ p197)) then (decide (r299 < 0)) else false) = true then
some (.inl (IntKind.i64.wrap (p277 + 1)))
else
some (.inr p277)
noncomputable def Wz (a1 : Int) (is4 : Ab → Ab → Option Int) (p195 : List Ab) (p290 : Int) (s : Int) : Option ((Int) ⊕ (Int)) :=
match s with
| p315 =>
(if ((decide (p290 ≤ p315)) == true) = true then Cg p195 p315 else some default).bind fun y329 =>
(if ((decide (p290 ≤ p315)) == true) = true then p195[p315.toNat]? else some default).bind fun y331 =>
(if ((decide (p290 ≤ p315)) == true) = true then Cg p195 a1 else some default).bind fun y333 =>
(if ((decide (p290 ≤ p315)) == true) = true then p195[a1.toNat]? else some default).bind fun y335 =>
(if ((decide (p290 ≤ p315)) == true) = true then is4 y331 y335 else some default).bind fun r337 =>
if (bif (decide (p290 ≤ p315)) then (!(decide (r337 < 0))) else false) = true then
some (.inl (IntKind.i64.wrap (p315 - 1)))
else
some (.inr p315)
noncomputable def eD (a1 : Int) (is4 : Ab → Ab → Option Int) (s : (List Ab) × Int × Int) : Option (((List Ab) × Int × Int) ⊕ ((List Ab) × Int)) :=
match s with
| (p195, p196, p197) =>
(Bm (Wy a1 is4 p195 p197) p196).bind fun r302 =>
(match r302 with
| p290 =>
(Bm (Wz a1 is4 p195 p290) p197).bind fun r340 =>
(match r340 with
| p328 =>
if (decide (p290 > p328)) = true then
some (.inr (p195, p328))
else
(Cg p195 p328).bind fun y343 =>
(p195[p328.toNat]?).bind fun y345 =>
(Cg p195 p290).bind fun y347 =>
(p195[p290.toNat]?).bind fun y349 =>
(Cg (p195.set p290.toNat y345) p328).bind fun y351 =>
((p195.set p290.toNat y345)[p328.toNat]?).bind fun y353 =>
some (.inl (((p195.set p290.toNat y345).set p328.toNat y349), (IntKind.i64.wrap (p290 + 1)), (IntKind.i64.wrap (p328 - 1))))))
noncomputable def RZ (a0 : List Ab) (a1 : Int) (a2 : Int) (a3 : Int) (is4 : Ab → Ab → Option Int) : Option (Int × Bool × (List Ab)) :=
(Cg a0 a3).bind fun y1 =>
(a0[a3.toNat]?).bind fun y3 =>
(Cg a0 a1).bind fun y5 =>
(a0[a1.toNat]?).bind fun y7 =>
(Cg (a0.set a1.toNat y3) a3).bind fun y9 =>
((a0.set a1.toNat y3)[a3.toNat]?).bind fun y11 =>
(Bm (nB a0 a1 a2 a3 is4 y3 y7) (IntKind.i64.wrap (a1 + 1))).bind fun r55 =>
(match r55 with
| p41 =>
(Bm (nC a0 a1 a3 is4 y3 y7 p41) (IntKind.i64.wrap (a2 - 1))).bind fun r95 =>
(match r95 with
| p83 =>
if (decide (p41 > p83)) = true then
(Cg ((a0.set a1.toNat y3).set a3.toNat y7) a1).bind fun y98 =>
(((a0.set a1.toNat y3).set a3.toNat y7)[a1.toNat]?).bind fun y100 =>
(Cg ((a0.set a1.toNat y3).set a3.toNat y7) p83).bind fun y102 =>
(((a0.set a1.toNat y3).set a3.toNat y7)[p83.toNat]?).bind fun y104 =>
(Cg (((a0.set a1.toNat y3).set a3.toNat y7).set p83.toNat y100) a1).bind fun y106 =>
((((a0.set a1.toNat y3).set a3.toNat y7).set p83.toNat y100)[a1.toNat]?).bind fun y108 =>
Bd ((((a0.set a1.toNat y3).set a3.toNat y7).set p83.toNat y100).set a1.toNat y104) fun v110 =>
some (p83, true, v110)
else
(Cg ((a0.set a1.toNat y3).set a3.toNat y7) p83).bind fun y112 =>
(((a0.set a1.toNat y3).set a3.toNat y7)[p83.toNat]?).bind fun y114 =>
(Cg ((a0.set a1.toNat y3).set a3.toNat y7) p41).bind fun y116 =>
(((a0.set a1.toNat y3).set a3.toNat y7)[p41.toNat]?).bind fun y118 =>
(Cg (((a0.set a1.toNat y3).set a3.toNat y7).set p41.toNat y114) p83).bind fun y120 =>
((((a0.set a1.toNat y3).set a3.toNat y7).set p41.toNat y114)[p83.toNat]?).bind fun y122 =>
Bd ((((a0.set a1.toNat y3).set a3.toNat y7).set p41.toNat y114).set p83.toNat y118) fun v124 =>
(Bm (eD a1 is4) (v124, (IntKind.i64.wrap (p41 + 1)), (IntKind.i64.wrap (p83 - 1)))).bind fun r355 =>
(match r355 with
| (p264, p265) =>
(Cg p264 a1).bind fun y357 =>
(p264[a1.toNat]?).bind fun y359 =>
(Cg p264 p265).bind fun y361 =>
(p264[p265.toNat]?).bind fun y363 =>
(Cg (p264.set p265.toNat y359) a1).bind fun y365 =>
((p264.set p265.toNat y359)[a1.toNat]?).bind fun y367 =>
some (p265, false, (p264.set p265.toNat y359).set a1.toNat y363))))
noncomputable def Wq (is4 : Ab → Ab → Option Int) (rc137 : (List Ab) → Int → Int → Int → (Ab → Ab → Option Int) → Option (List Ab)) (p63 : Int) (p64 : Int) (p66 : Bool) (p67 : Bool) (p148 : Int) (p158 : Int) (p165 : List Ab) : Option (((List Ab) × Int × Int × Int × Bool × Bool) ⊕ ((List Ab))) :=
(if ((decide (p63 > 0)) == true) = true then Cg p165 (IntKind.i64.wrap (p63 - 1)) else some default).bind fun y166 =>
(if ((decide (p63 > 0)) == true) = true then p165[(IntKind.i64.wrap (p63 - 1)).toNat]? else some default).bind fun y168 =>
(if ((decide (p63 > 0)) == true) = true then Cg p165 p158 else some default).bind fun y170 =>
(if ((decide (p63 > 0)) == true) = true then p165[p158.toNat]? else some default).bind fun y172 =>
(if ((decide (p63 > 0)) == true) = true then is4 y168 y172 else some default).bind fun r174 =>
if (bif (decide (p63 > 0)) then (!(decide (r174 < 0))) else false) = true then
(Adh p165 p63 p64 p158 is4).bind fun r177 =>
if r177.2.length = p165.length then
some (.inl (r177.2, r177.1, p64, p148, p66, p67))
else none
else
(RZ p165 p63 p64 p158 is4).bind fun r180 =>
if r180.2.2.length = p165.length then
Bd ((decide ((IntKind.i64.wrap (r180.1 - p63)) < (IntKind.i64.wrap (p64 - r180.1))))) fun v183 =>
if v183 = true then
Bd ((decide ((IntKind.i64.wrap (r180.1 - p63)) ≥ (IntKind.i64.wrap (((IntKind.i64.wrap (p64 - p63))).tdiv 8))))) fun v186 =>
(rc137 r180.2.2 p63 r180.1 p148 is4).bind fun r188 =>
if r188.length = r180.2.2.length then
some (.inl (r188, (IntKind.i64.wrap (r180.1 + 1)), p64, p148, v186, r180.2.1))
else none
else
Bd ((decide ((IntKind.i64.wrap (p64 - r180.1)) ≥ (IntKind.i64.wrap (((IntKind.i64.wrap (p64 - p63))).tdiv 8))))) fun v191 =>
(rc137 r180.2.2 (IntKind.i64.wrap (r180.1 + 1)) p64 p148 is4).bind fun r193 =>
if r193.length = r180.2.2.length then
some (.inl (r193, p63, r180.1, p148, v191, r180.2.1))
else none
else none
noncomputable def Si (is4 : Ab → Ab → Option Int) (rc137 : (List Ab) → Int → Int → Int → (Ab → Ab → Option Int) → Option (List Ab)) (p63 : Int) (p64 : Int) (p66 : Bool) (p67 : Bool) (p148 : Int) (p157 : List Ab) (p158 : Int) (p159 : Int) : Option (((List Ab) × Int × Int × Int × Bool × Bool) ⊕ ((List Ab))) :=
if (bif (bif p66 then p67 else false) then (p159 == 1) else false) = true then
(Adg p157 p63 p64 is4).bind fun r198 =>
if r198.2.length = p157.length then
if r198.1 = true then
some (.inr r198.2)
else
Wq is4 rc137 p63 p64 p66 p67 p148 p158 r198.2
else none
else
Wq is4 rc137 p63 p64 p66 p67 p148 p158 p157
noncomputable def Mm (is4 : Ab → Ab → Option Int) (rc137 : (List Ab) → Int → Int → Int → (Ab → Ab → Option Int) → Option (List Ab)) (p63 : Int) (p64 : Int) (p66 : Bool) (p67 : Bool) (p147 : List Ab) (p148 : Int) : Option (((List Ab) × Int × Int × Int × Bool × Bool) ⊕ ((List Ab))) :=
(Ade p147 p63 p64 is4).bind fun r149 =>
if (r149.2 == 2) = true then
(Adf p147 p63 p64 is4).bind fun r204 =>
if r204.length = p147.length then
Bd (IntKind.i64.wrap ((IntKind.i64.wrap (p64 - 1)) - (IntKind.i64.wrap (r149.1 - p63)))) fun v207 =>
Si is4 rc137 p63 p64 p66 p67 p148 r204 v207 1
else none
else
Si is4 rc137 p63 p64 p66 p67 p148 p147 r149.1 r149.2
noncomputable def Kt (is4 : Ab → Ab → Option Int) (rc137 : (List Ab) → Int → Int → Int → (Ab → Ab → Option Int) → Option (List Ab)) (s : (List Ab) × Int × Int × Int × Bool × Bool) : Option (((List Ab) × Int × Int × Int × Bool × Bool) ⊕ ((List Ab))) :=
match s with
| (p62, p63, p64, p65, p66, p67) =>
if (decide ((IntKind.i64.wrap (p64 - p63)) ≤ 12)) = true then
(Adb p62 p63 p64 is4).bind fun r136 =>
if r136.length = p62.length then
some (.inr r136)
else none
else
if (p65 == 0) = true then
(Adc p62 p63 p64 is4).bind fun r140 =>
if r140.length = p62.length then
some (.inr r140)
else none
else
if (!p66) = true then
(wE p62 p63 p64 is4).bind fun r211 =>
if r211.length = p62.length then
Mm is4 rc137 p63 p64 p66 p67 r211 (IntKind.i64.wrap (p65 - 1))
else none
else
Mm is4 rc137 p63 p64 p66 p67 p62 p65
noncomputable def Yi (rc137 : (List Ab) → Int → Int → Int → (Ab → Ab → Option Int) → Option (List Ab)) (a0 : List Ab) (a1 : Int) (a2 : Int) (a3 : Int) (is4 : Ab → Ab → Option Int) : Option (List Ab) :=
(Bm (Kt is4 rc137) (a0, a1, a2, a3, true, true)).bind fun r214 =>
(match r214 with
| q => some q)
noncomputable def RI (n : Nat) : (List Ab) → Int → Int → Int → (Ab → Ab → Option Int) → Option (List Ab) := Nat.rec (fun _ _ _ _ _ => none) (fun _ rc => Yi rc) n
noncomputable def QW (a0 : List Ab) (is1 : Ab → Ab → Option Int) : Option (List Ab) :=
(RJ (IntKind.u64.wrap (a0.length : Int))).bind fun r1 =>
(RI Oe a0 0 (a0.length : Int) r1 is1).bind fun r3 =>
if r3.length = a0.length then
some r3
else none
noncomputable def eU (p21 : Int) (p58 : List Ab) (p59 : List Ab) : Option (((List Ab) × (List Ab) × Int) ⊕ ((List Ab) × (List Ab))) :=
some (.inl (p58, p59, (IntKind.i64.wrap (p21 + 1))))
noncomputable def Uo (a0 : Ai) (a1 : Int) (r1 : Ai) (s : (List Ab) × (List Ab) × Int) : Option (((List Ab) × (List Ab) × Int) ⊕ ((List Ab) × (List Ab))) :=
match s with
| (p19, p20, p21) =>
if (decide (p21 < (r1.Ad.length : Int))) = true then
(Cg p20 p21).bind fun y62 =>
(p20[p21.toNat]?).bind fun y64 =>
Bd ((bif (!y64.Bt) then (decide (y64.Be ≤ (if a1 > a0.clock then a1 else a0.clock))) else false)) fun v66 =>
if v66 = true then
(Cg p20 p21).bind fun y69 =>
(p20[p21.toNat]?).bind fun y71 =>
if (p19.length + ([y64] : List Ab).length) * 32 ≤ 140737488355328 then
eU p21 (p19 ++ ([y64] : List Ab)) (p20.set p21.toNat (Ab.mk y71.id y71.Be y71.cap true))
else none
else
eU p21 p19 p20
else
some (.inr (p19, p20))
noncomputable def g82 (a0 : Ai) (a1 : Int) : Option (Ai × (List Int)) :=
(gP a0).bind fun r1 =>
(Bm (Uo a0 a1 r1) ([], r1.Ad, 0)).bind fun r74 =>
(match r74 with
| (p43, p44) =>
(QW p43 (fun z69_0 z69_1 => g69 z69_0 z69_1)).bind fun r76 =>
if r76.length = p43.length then
(UU (Ai.mk 0 0 r76)).bind fun r79 =>
some ((Ai.mk (if a1 > a0.clock then a1 else a0.clock) r1.next p44), r79)
else none)
noncomputable def Ada (a0 : Int) (a1 : Int) : Option Bool :=
(gQ a0).bind fun r1 =>
(if (r1 == true) = true then gQ a1 else some default).bind fun r3 =>
Bd ((bif (bif r1 then (!r3) else false) then true else (decide (a0 < a1)))) fun v5 =>
some v5
noncomputable def RK (a0 : Int) : Option Bool :=
some (a0 != a0)
noncomputable def dM (a0 : List Int) (a1 : Int) (s : Int × Int) : Option ((Int × Int) ⊕ (Int)) :=
match s with
| (p9, p10) =>
if (decide (p9 < p10)) = true then
Bd (IntKind.i64.wrap (Jz .u64 (IntKind.u64.wrap (IntKind.i64.wrap (p9 + p10))) 1)) fun v23 =>
(Cg a0 v23).bind fun y25 =>
(Ada y25 a1).bind fun r27 =>
if r27 = true then
some (.inl ((IntKind.i64.wrap (v23 + 1)), p10))
else
some (.inl (p9, v23))
else
some (.inr p9)
noncomputable def AcZ (a0 : List Int) (a1 : Int) : Option (Int × Bool) :=
(Bm (dM a0 a1) (0, (a0.length : Int))).bind fun r30 =>
(match r30 with
| p21 =>
(if ((decide (p21 < (a0.length : Int))) == true) = true then Cg a0 p21 else some default).bind fun y32 =>
(if (((decide (p21 < (a0.length : Int))) == true) && ((y32 == a1) == false)) = true then Cg a0 p21 else some default).bind fun y34 =>
(if (((decide (p21 < (a0.length : Int))) == true) && ((y32 == a1) == false)) = true then RK y34 else some default).bind fun r36 =>
(if ((((decide (p21 < (a0.length : Int))) == true) && ((y32 == a1) == false)) && (r36 == true)) = true then RK a1 else some default).bind fun r38 =>
Bd ((bif (decide (p21 < (a0.length : Int))) then (bif (y32 == a1) then true else (bif r36 then r38 else false)) else false)) fun v40 =>
some (p21, v40))
def g122 (a0 : List Int) (a1 : Int) (a2 : List Int) : Option ((List Int) × (List Int)) := if (0 ≤ a1 ∧ a1 ≤ (a0.length : Int)) ∧ 0 < a2.length ∧ a0.length + a2.length ≤ 17592186044416 then some (a0.take a1.toNat ++ a2 ++ a0.drop a1.toNat, a2) else none
def g123 (a0 : List Int) (a1 : Int) (a2 : Int) : Option (List Int) := if (0 ≤ a1 ∧ a1 ≤ a2 ∧ a2 ≤ (a0.length : Int)) ∧ a0.length ≤ 17592186044416 then some (a0.take a1.toNat ++ a0.drop a2.toNat) else none
noncomputable def Yw (a3 : Int) (p13 : List Int) : Option ((List Int) × Int) :=
if (a3 == 2) = true then
some (p13, 15)
else
some (p13, 0)
noncomputable def g89 (a0 : List Int) (a1 : Int) (a2 : Bool) (a3 : Int) : Option ((List Int) × Int) :=
(aT a0).bind fun r1 =>
if (a3 == 1) = true then
some (r1, 13)
else
(AcZ r1 a1).bind fun r4 =>
if (bif a2 then (!r4.2) else false) = true then
(g122 r1 r4.1 ([a1] : List Int)).bind fun r17 =>
if r17.2.length = ([a1] : List Int).length then
Yw a3 r17.1
else none
else
if (bif (!a2) then r4.2 else false) = true then
(g123 r1 r4.1 (IntKind.i64.wrap (r4.1 + 1))).bind fun r21 =>
Yw a3 r21
else
Yw a3 r1
noncomputable def SL  (s : Int × (List UInt8)) : Option ((Int × (List UInt8)) ⊕ ((List UInt8))) :=
match s with
| (p6, p7) =>
if (decide (p6 > 0)) = true then
if ([b8 (IntKind.i64.wrap (48 + ((p6).tmod 10)))] : List UInt8).length + p7.length ≤ 9223372036854775807 then
some (.inl ((IntKind.i64.wrap ((p6).tdiv 10)), (([b8 (IntKind.i64.wrap (48 + ((p6).tmod 10)))] : List UInt8) ++ p7)))
else none
else
some (.inr p7)
noncomputable def g316 (a0 : Int) : Option (List UInt8) :=
if (decide (a0 ≤ 0)) = true then
some ([109, 48] : List UInt8)
else
(Bm (SL) (a0, ([] : List UInt8))).bind fun r15 =>
(match r15 with
| p12 =>
if ([109] : List UInt8).length + p12.length ≤ 9223372036854775807 then
some (([109] : List UInt8) ++ p12)
else none)
def pP (a0 : List Af) : Option (List Af) := if ([] : List Af).length + a0.length ≤ 8796093022208 then some a0 else none
noncomputable def Adq (a0 : Ag) : Option Ag :=
(gP a0.Ac).bind fun r1 =>
(pP a0.Aa).bind fun r3 =>
(aT a0.Ae).bind fun r5 =>
some (Ag.mk r1 r3 r5 a0.Al)
noncomputable def eM (a0 : Ag) (a1 : Int) : Option (Ag × Aq) :=
some (a0, (Aq.mk a1 0))
noncomputable def Sv (a0 : Ag) (s : Int × (List Af)) : Option ((Int × (List Af)) ⊕ ((List Af))) :=
match s with
| (p6, p7) =>
if (decide (p6 < (a0.Aa.length : Int))) = true then
(Cg p7 p6).bind fun y17 =>
(p7[p6.toNat]?).bind fun y19 =>
some (.inl ((IntKind.i64.wrap (p6 + 1)), (p7.set p6.toNat (Af.mk y19.Av true))))
else
some (.inr p7)
noncomputable def gS (a0 : Ag) : Option (Ag × Aq) :=
(Bm (Sv a0) (0, a0.Aa)).bind fun r21 =>
(match r21 with
| p15 =>
some ((Ag.mk a0.Ac p15 a0.Ae true), (Aq.mk 15 0)))
noncomputable def Xe (a0 : Dn) (a1 : Int) (a2 : Bool) (p4 : Int) : Option (Int × Dn) :=
(g89 a0.v.Ae a1 a2 p4).bind fun r5 =>
some (r5.2, (Dn.mk (Ag.mk a0.v.Ac a0.v.Aa r5.1 a0.v.Al) a0.a (IntKind.i64.wrap (a0.Ql + 1))))
noncomputable def gT (a0 : Dn) (a1 : Int) (a2 : Bool) : Option (Int × Dn) :=
if (decide (a0.Ql < (a0.a.Dd.length : Int))) = true then
(Cg a0.a.Dd a0.Ql).bind fun y9 =>
Xe a0 a1 a2 y9
else
Xe a0 a1 a2 0
noncomputable def Ku (a0 : Ag) (a1 : Am) (r1 : Ai × Int × Int) (p4 : Int) : Option (Ag × Aq) :=
if (p4 != 0) = true then
(eM a0 p4).bind fun r6 =>
some (r6.1, r6.2)
else
if (a0.Aa.length + ([(Af.mk r1.2.1 false)] : List Af).length) * 16 ≤ 140737488355328 then
if (a1.stop == 1) = true then
(gS (Ag.mk (Ai.mk a0.Ac.clock (IntKind.i64.wrap (a0.Ac.next + 1)) a0.Ac.Ad) (a0.Aa ++ ([(Af.mk r1.2.1 false)] : List Af)) a0.Ae a0.Al)).bind fun r10 =>
some (r10.1, r10.2)
else
(gT (Dn.mk (Ag.mk (Ai.mk a0.Ac.clock (IntKind.i64.wrap (a0.Ac.next + 1)) a0.Ac.Ad) (a0.Aa ++ ([(Af.mk r1.2.1 false)] : List Af)) a0.Ae a0.Al) a1 0) r1.2.1 true).bind fun r12 =>
if (a1.stop == 2) = true then
(gS r12.2.v).bind fun r15 =>
some (r15.1, r15.2)
else
if (r12.1 != 0) = true then
(Cg r12.2.v.Aa (IntKind.i64.wrap ((r12.2.v.Aa.length : Int) - 1))).bind fun y18 =>
(r12.2.v.Aa[(IntKind.i64.wrap ((r12.2.v.Aa.length : Int) - 1)).toNat]?).bind fun y20 =>
(eM (Ag.mk r12.2.v.Ac (r12.2.v.Aa.set ((IntKind.i64.wrap ((r12.2.v.Aa.length : Int) - 1)).toNat) (Af.mk y20.Av true)) r12.2.v.Ae r12.2.v.Al) r12.1).bind fun r22 =>
some (r22.1, r22.2)
else
(Tv r12.2.v.Aa 0 (IntKind.i64.wrap ((r12.2.v.Aa.length : Int) - 1))).bind fun s24 =>
some ((Ag.mk r1.1 s24 r12.2.v.Ae r12.2.v.Al), (Aq.mk 0 r1.2.1))
else none
noncomputable def Adr (a0 : Ag) (a1 : Am) : Option (Ag × Aq) :=
(g71 a0.Ac a1.ttl a1.Gw).bind fun r1 =>
if (bif (r1.2.2 == 0) then ((a0.Aa.length : Int) == 40) else false) = true then
Ku a0 a1 r1 9
else
Ku a0 a1 r1 r1.2.2
noncomputable def SS (a0 : Ag) (a1 : Ai) (a2 : Int) : Option (Ag × Aq) :=
if (a2 != 0) = true then
(eM a0 a2).bind fun r2 =>
some (r2.1, r2.2)
else
some ((Ag.mk a1 a0.Aa a0.Ae a0.Al), (Aq.mk 0 0))
noncomputable def pQ (a0 : Am) (a1 : Dn) : Option Bool :=
some (bif (a0.stop == 2) then (a1.Ql == 1) else false)
noncomputable def SX (a0 : List Af) (is1 : Af → Option Bool) (s : Int) : Option ((Int) ⊕ (Unit ⊕ Int)) :=
match s with
| p7 =>
if (decide (p7 < (a0.length : Int))) = true then
(Cg a0 p7).bind fun y16 =>
(is1 y16).bind fun r18 =>
if r18 = true then
some (.inr (.inr p7))
else
some (.inl (IntKind.i64.wrap (p7 + 1)))
else
some (.inr (.inl ()))
noncomputable def g475 (a0 : List Af) (is1 : Af → Option Bool) : Option Int :=
(Bm (SX a0 is1) 0).bind fun r21 =>
(match r21 with
| .inl () =>
some (-1)
| .inr q => some q)
noncomputable def nH (p20 : Int) (p52 : List Af) (p53 : Int) : Option (((List Af) × Int × Int) ⊕ ((List Af) × Int)) :=
some (.inl (p52, p53, (IntKind.i64.wrap (p20 + 1))))
noncomputable def SV (is1 : Af → Option Bool) (s : (List Af) × Int × Int) : Option (((List Af) × Int × Int) ⊕ ((List Af) × Int)) :=
match s with
| (p18, p19, p20) =>
if (decide (p20 < (p18.length : Int))) = true then
(Cg p18 p20).bind fun y55 =>
(p18[p20.toNat]?).bind fun y57 =>
(is1 y57).bind fun r59 =>
if (!r59) = true then
(Cg p18 p19).bind fun y62 =>
(p18[p19.toNat]?).bind fun y64 =>
nH p20 (p18.set p19.toNat y57) (IntKind.i64.wrap (p19 + 1))
else
nH p20 p18 p19
else
some (.inr (p18, p19))
noncomputable def ST (a0 : List Af) (is1 : Af → Option Bool) : Option (List Af) :=
(g475 a0 is1).bind fun r1 =>
if (r1 == (-1)) = true then
some a0
else
(Bm (SV is1) (a0, r1, (IntKind.i64.wrap (r1 + 1)))).bind fun r66 =>
(match r66 with
| (p38, p39) =>
(Tv p38 p39 (p38.length : Int)).bind fun s68 =>
(Tv (ovl p38 p39.toNat (List.replicate s68.length (Af.mk 0 false))) 0 p39).bind fun s70 =>
some s70)
noncomputable def Adt (a0 : Af) (a1 : Af) : Option Bool :=
some (a0.Av == a1.Av)
noncomputable def Xc (p43 : Int) (p143 : Int) (p144 : Int) (p145 : List Ab) (p146 : List Af) (p147 : List Int) (p148 : Bool) (p149 : Int) (p150 : Int) (p151 : Int) (p152 : Int) (p153 : Int) (p154 : List Int) (p155 : Int) (p156 : Int) : Option ((Int × Int × Int × (List Ab) × (List Af) × (List Int) × Bool × Int × Int × Int × Int × Int × (List Int) × Int × Int) ⊕ ((Int × Int × (List Ab) × (List Af) × (List Int) × Bool × Int × Int × Int × Int × Int × (List Int) × Int × Int) ⊕ (Ag × Aq))) :=
some (.inl ((IntKind.i64.wrap (p43 + 1)), p143, p144, p145, p146, p147, p148, p149, p150, p151, p152, p153, p154, p155, p156))
noncomputable def Ss (a1 : Am) (p43 : Int) (r163 : Int × Dn) (p170 : Int) (p171 : Int) (p172 : List Ab) : Option ((Int × Int × Int × (List Ab) × (List Af) × (List Int) × Bool × Int × Int × Int × Int × Int × (List Int) × Int × Int) ⊕ ((Int × Int × (List Ab) × (List Af) × (List Int) × Bool × Int × Int × Int × Int × Int × (List Int) × Int × Int) ⊕ (Ag × Aq))) :=
(pQ a1 (Dn.mk (Ag.mk (Ai.mk p170 p171 p172) r163.2.v.Aa r163.2.v.Ae r163.2.v.Al) r163.2.a r163.2.Ql)).bind fun r173 =>
if r173 = true then
(gS (Ag.mk (Ai.mk p170 p171 p172) r163.2.v.Aa r163.2.v.Ae r163.2.v.Al)).bind fun r176 =>
some (.inr (.inr (r176.1, r176.2)))
else
Xc p43 p170 p171 p172 r163.2.v.Aa r163.2.v.Ae r163.2.v.Al r163.2.a.kind r163.2.a.id r163.2.a.ttl r163.2.a.Gw r163.2.a.clock r163.2.a.Dd r163.2.a.stop r163.2.Ql
noncomputable def Kv (a1 : Am) (r6 : (List Ab)) (s : Int × Int × Int × (List Ab) × (List Af) × (List Int) × Bool × Int × Int × Int × Int × Int × (List Int) × Int × Int) : Option ((Int × Int × Int × (List Ab) × (List Af) × (List Int) × Bool × Int × Int × Int × Int × Int × (List Int) × Int × Int) ⊕ ((Int × Int × (List Ab) × (List Af) × (List Int) × Bool × Int × Int × Int × Int × Int × (List Int) × Int × Int) ⊕ (Ag × Aq))) :=
match s with
| (p43, p44, p45, p46, p47, p48, p49, p50, p51, p52, p53, p54, p55, p56, p57) =>
if (decide (p43 < (r6.length : Int))) = true then
(Cg r6 p43).bind fun y158 =>
(r6[p43.toNat]?).bind fun y160 =>
if (!y160.Bt) = true then
Xc p43 p44 p45 p46 p47 p48 p49 p50 p51 p52 p53 p54 p55 p56 p57
else
(gT (Dn.mk (Ag.mk (Ai.mk p44 p45 p46) p47 p48 p49) (Am.mk p50 p51 p52 p53 p54 p55 p56) p57) y160.id false).bind fun r163 =>
(zZ r163.2.v.Ac y160.id).bind fun r165 =>
if (r163.1 == 0) = true then
(g78 r163.2.v.Ac r165.1).bind fun r180 =>
Ss a1 p43 r163 r180.clock r180.next r180.Ad
else
Ss a1 p43 r163 r163.2.v.Ac.clock r163.2.v.Ac.next r163.2.v.Ac.Ad
else
some (.inr (.inl (p44, p45, p46, p47, p48, p49, p50, p51, p52, p53, p54, p55, p56, p57)))
noncomputable def Xd (p217 : Int) (p309 : Int) (p310 : Int) (p311 : List Ab) (p312 : List Af) (p313 : List Int) (p314 : Bool) (p315 : Int) (p316 : Int) (p317 : Int) (p318 : Int) (p319 : Int) (p320 : List Int) (p321 : Int) (p322 : Int) : Option ((Int × Int × Int × (List Ab) × (List Af) × (List Int) × Bool × Int × Int × Int × Int × Int × (List Int) × Int × Int) ⊕ ((Int × Int × (List Ab) × (List Af) × (List Int) × Bool × Int × Int × Int × Int × Int × (List Int) × Int × Int) ⊕ (Ag × Aq))) :=
some (.inl ((IntKind.i64.wrap (p217 + 1)), p309, p310, p311, p312, p313, p314, p315, p316, p317, p318, p319, p320, p321, p322))
noncomputable def Su (a1 : Am) (p217 : Int) (r329 : Int × Dn) (p334 : List Af) : Option ((Int × Int × Int × (List Ab) × (List Af) × (List Int) × Bool × Int × Int × Int × Int × Int × (List Int) × Int × Int) ⊕ ((Int × Int × (List Ab) × (List Af) × (List Int) × Bool × Int × Int × Int × Int × Int × (List Int) × Int × Int) ⊕ (Ag × Aq))) :=
(pQ a1 (Dn.mk (Ag.mk r329.2.v.Ac p334 r329.2.v.Ae r329.2.v.Al) r329.2.a r329.2.Ql)).bind fun r335 =>
if r335 = true then
(gS (Ag.mk r329.2.v.Ac p334 r329.2.v.Ae r329.2.v.Al)).bind fun r338 =>
some (.inr (.inr (r338.1, r338.2)))
else
Xd p217 r329.2.v.Ac.clock r329.2.v.Ac.next r329.2.v.Ac.Ad p334 r329.2.v.Ae r329.2.v.Al r329.2.a.kind r329.2.a.id r329.2.a.ttl r329.2.a.Gw r329.2.a.clock r329.2.a.Dd r329.2.a.stop r329.2.Ql
noncomputable def Io (a1 : Am) (r184 : (List Af)) (s : Int × Int × Int × (List Ab) × (List Af) × (List Int) × Bool × Int × Int × Int × Int × Int × (List Int) × Int × Int) : Option ((Int × Int × Int × (List Ab) × (List Af) × (List Int) × Bool × Int × Int × Int × Int × Int × (List Int) × Int × Int) ⊕ ((Int × Int × (List Ab) × (List Af) × (List Int) × Bool × Int × Int × Int × Int × Int × (List Int) × Int × Int) ⊕ (Ag × Aq))) :=
match s with
| (p217, p218, p219, p220, p221, p222, p223, p224, p225, p226, p227, p228, p229, p230, p231) =>
if (decide (p217 < (r184.length : Int))) = true then
(Cg r184 p217).bind fun y324 =>
(r184[p217.toNat]?).bind fun y326 =>
if (!y326.Hl) = true then
Xd p217 p218 p219 p220 p221 p222 p223 p224 p225 p226 p227 p228 p229 p230 p231
else
(gT (Dn.mk (Ag.mk (Ai.mk p218 p219 p220) p221 p222 p223) (Am.mk p224 p225 p226 p227 p228 p229 p230) p231) y326.Av false).bind fun r329 =>
if (r329.1 == 0) = true then
(ST r329.2.v.Aa (fun z474_0 => Adt z474_0 y326)).bind fun r342 =>
Su a1 p217 r329 r342
else
Su a1 p217 r329 r329.2.v.Aa
else
some (.inr (.inl (p218, p219, p220, p221, p222, p223, p224, p225, p226, p227, p228, p229, p230, p231)))
noncomputable def Ads (a0 : Ag) (a1 : Am) : Option (Ag × Aq) :=
(g82 a0.Ac a1.clock).bind fun r1 =>
if (a1.stop == 1) = true then
(gS (Ag.mk r1.1 a0.Aa a0.Ae a0.Al)).bind fun r4 =>
some (r4.1, r4.2)
else
(g66 r1.1.Ad).bind fun r6 =>
(Bm (Kv a1 r6) (0, r1.1.clock, r1.1.next, r1.1.Ad, a0.Aa, a0.Ae, a0.Al, a1.kind, a1.id, a1.ttl, a1.Gw, a1.clock, a1.Dd, a1.stop, 0)).bind fun r182 =>
(match r182 with
| .inl (p108, p109, p110, p111, p112, p113, p114, p115, p116, p117, p118, p119, p120, p121) =>
(pP p111).bind fun r184 =>
(Bm (Io a1 r184) (0, p108, p109, p110, p111, p112, p113, p114, p115, p116, p117, p118, p119, p120, p121)).bind fun r344 =>
(match r344 with
| .inl (p278, p279, p280, p281, p282, p283, p284, p285, p286, p287, p288, p289, p290, p291) =>
some ((Ag.mk (Ai.mk p278 p279 p280) p281 p282 p283), (Aq.mk 0 0))
| .inr q => some q)
| .inr q => some q)
noncomputable def g459 (a0 : Ag) (a1 : Am) : Option (Ag × Aq) :=
(Adq a0).bind fun r1 =>
(wL a1.kind 1 6).bind fun r3 =>
if (!r3) = true then
(eM r1 16).bind fun r6 =>
some (r6.1, r6.2)
else
if (bif r1.Al then (a1.kind != 6) else false) = true then
(eM r1 14).bind fun r9 =>
some (r9.1, r9.2)
else
if (a1.kind == 1) = true then
(Adr r1 a1).bind fun r12 =>
some (r12.1, r12.2)
else
if (a1.kind == 2) = true then
(g80 r1.Ac a1.id a1.ttl).bind fun r15 =>
(SS r1 r15.1 r15.2).bind fun r17 =>
some (r17.1, r17.2)
else
if (a1.kind == 3) = true then
(g75 r1.Ac a1.id).bind fun r20 =>
(SS r1 r20.1 r20.2).bind fun r22 =>
some (r22.1, r22.2)
else
if (a1.kind == 4) = true then
(Ads r1 a1).bind fun r25 =>
some (r25.1, r25.2)
else
some ((Ag.mk r1.Ac r1.Aa r1.Ae (a1.kind == 5)), (Aq.mk 0 0))
end Go.Ev
