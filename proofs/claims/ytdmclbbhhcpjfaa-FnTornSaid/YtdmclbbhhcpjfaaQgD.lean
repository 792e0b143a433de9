/- Functions with the answers of the program's, written by a program of ours. -/
import Derived.Test.YtdmclbbhhcpjfaaQvM
set_option linter.all false
set_option maxHeartbeats 4000000
set_option linter.unusedVariables false
set_option maxRecDepth 100000
namespace Go.Ev
structure Dl00Src where
  code_ : List UInt8
  at_ : Int
  seed : Int
  deriving Inhabited, DecidableEq
def okDl00Src (x : Dl00Src) : Prop := (okL okAny) x.code_ ∧ ok64 x.at_ ∧ ok64 x.seed
def eDl00Src (x : Dl00Src) : List V := [.lst 1 (x.code_.map eU8), .int .i64 x.at_, .int .i64 x.seed]
structure DSector where
  at_ : Int
  data : List UInt8
  deriving Inhabited, DecidableEq
def okDSector (x : DSector) : Prop := ok64 x.at_ ∧ (okL okAny) x.data
def eDSector (x : DSector) : List V := [.int .i64 x.at_, .lst 1 (x.data.map eU8)]
structure DDevice where
  held : List UInt8
  waiting : List DSector
  deriving Inhabited, DecidableEq
def okDDevice (x : DDevice) : Prop := (okL okAny) x.held ∧ (okL okDSector) x.waiting
def eDDevice (x : DDevice) : List V := [.lst 1 (x.held.map eU8), .lst 2 (x.waiting.map eDSector)]
structure DDevAct where
  kind : Int
  at_ : Int
  data : List UInt8
  keep : List Bool
  deriving Inhabited, DecidableEq
def okDDevAct (x : DDevAct) : Prop := ok64 x.kind ∧ ok64 x.at_ ∧ (okL okAny) x.data ∧ (okL okAny) x.keep
def eDDevAct (x : DDevAct) : List V := [.int .i64 x.kind, .int .i64 x.at_, .lst 1 (x.data.map eU8), .lst 1 (x.keep.map eB)]
noncomputable def g269 (a0 : List DSector) : Option Bool :=
some (decide ((a0.length : Int) ≤ 4096))
noncomputable def g367_l0 (a0 : List DSector) (is1 : DSector → Option Bool) (s : Int) : Option ((Int) ⊕ (Unit ⊕ Int)) :=
match s with
| p7 =>
if (decide (p7 < (a0.length : Int))) = true then
(idx a0 p7).bind fun y16 =>
(is1 y16).bind fun r18 =>
if r18 = true then
some (.inr (.inr p7))
else
some (.inl (IntKind.i64.wrap (p7 + 1)))
else
some (.inr (.inl ()))
noncomputable def g367 (a0 : List DSector) (is1 : DSector → Option Bool) : Option Int :=
(iter (g367_l0 a0 is1) 0).bind fun r21 =>
(match r21 with
| .inl () =>
some (-1)
| .inr q => some q)
noncomputable def g329 (a0 : List DSector) (is1 : DSector → Option Bool) : Option Bool :=
(g367 a0 is1).bind fun r1 =>
some (decide (r1 ≥ 0))
noncomputable def g330 (a0 : DSector) (is1 : DSector → Option Bool) : Option Bool :=
(is1 a0).bind fun r1 =>
some (!r1)
noncomputable def g270 (a0 : List DSector) (is1 : DSector → Option Bool) : Option Bool :=
(g329 a0 (fun z330_0 => g330 z330_0 is1)).bind fun r1 =>
some (!r1)
noncomputable def g63 (a0 : Int) (a1 : Int) (a2 : Int) : Option Bool :=
some (bif (decide (a1 ≤ a0)) then (decide (a0 ≤ a2)) else false)
noncomputable def g271 (a0 : DSector) : Option Bool :=
(g63 a0.at_ 0 127).bind fun r1 =>
some (bif r1 then ((a0.data.length : Int) == 32) else false)
noncomputable def g216 (a0 : DDevice) : Option Bool :=
(if ((bif ((((a0.held.length : Int)).tmod 32) == 0) then (decide ((a0.held.length : Int) ≤ 4096)) else false) == true) = true then g269 a0.waiting else some default).bind fun r1 =>
(if ((bif (bif ((((a0.held.length : Int)).tmod 32) == 0) then (decide ((a0.held.length : Int) ≤ 4096)) else false) then r1 else false) == true) = true then g270 a0.waiting (fun z271_0 => g271 z271_0) else some default).bind fun r3 =>
bindv ((bif (bif (bif ((((a0.held.length : Int)).tmod 32) == 0) then (decide ((a0.held.length : Int) ≤ 4096)) else false) then r1 else false) then r3 else false)) fun v5 =>
some v5
noncomputable def g264 (a0 : List UInt8) : Option Bool :=
some (decide ((a0.length : Int) ≤ 65536))
noncomputable def g327 (a0 : Int) (a1 : Int) : Option Bool :=
(g63 a0 0 4096).bind fun r1 =>
bindv ((bif r1 then (decide ((IntKind.i64.wrap (a0 + a1)) ≤ 4096)) else false)) fun v3 =>
some v3
def g325 (a0 : List UInt8) : Option (List UInt8) := if ([] : List UInt8).length + a0.length ≤ 140737488355328 then some a0 else none
noncomputable def g326_j0 (a1 : DSector) (p6 : List UInt8) : Option (List UInt8) :=
(slc p6 (IntKind.i64.wrap (32 * a1.at_)) (p6.length : Int)).bind fun s7 =>
bindv (ovl p6 ((IntKind.i64.wrap (32 * a1.at_)).toNat) (a1.data.take s7.length)) fun v9 =>
some v9
noncomputable def g326 (a0 : List UInt8) (a1 : DSector) : Option (List UInt8) :=
bindv ((decide ((a0.length : Int) < (IntKind.i64.wrap (32 * (IntKind.i64.wrap (a1.at_ + 1))))))) fun v1 =>
if v1 = true then
if 0 ≤ (IntKind.i64.wrap ((IntKind.i64.wrap (32 * (IntKind.i64.wrap (a1.at_ + 1)))) - (a0.length : Int))) then
if ((a0.length : Int) + (IntKind.i64.wrap ((IntKind.i64.wrap (32 * (IntKind.i64.wrap (a1.at_ + 1)))) - (a0.length : Int)))) * 1 ≤ 140737488355328 then
g326_j0 a1 (a0 ++ List.replicate (IntKind.i64.wrap ((IntKind.i64.wrap (32 * (IntKind.i64.wrap (a1.at_ + 1)))) - (a0.length : Int))).toNat (0 : UInt8))
else none
else none
else
g326_j0 a1 a0
noncomputable def g263_l0 (a0 : DDevice) (s : (List UInt8) × Int) : Option (((List UInt8) × Int) ⊕ ((List UInt8))) :=
match s with
| (p8, p9) =>
if (decide (p9 < (a0.waiting.length : Int))) = true then
(idx a0.waiting p9).bind fun y19 =>
(g326 p8 y19).bind fun r21 =>
some (.inl (r21, (IntKind.i64.wrap (p9 + 1))))
else
some (.inr p8)
noncomputable def g263 (a0 : DDevice) : Option (List UInt8) :=
(g325 a0.held).bind fun r1 =>
(iter (g263_l0 a0) (r1, 0)).bind fun r23 =>
(match r23 with
| p17 =>
some p17)
noncomputable def g366_l0 (a0 : DDevice) (s : Int × (List DSector)) : Option ((Int × (List DSector)) ⊕ ((List DSector))) :=
match s with
| (p9, p10) =>
if (decide (p9 < (a0.waiting.length : Int))) = true then
(idx a0.waiting p9).bind fun y21 =>
(g325 y21.data).bind fun r23 =>
if (p10.length + ([(DSector.mk y21.at_ r23)] : List DSector).length) * 32 ≤ 140737488355328 then
some (.inl ((IntKind.i64.wrap (p9 + 1)), (p10 ++ ([(DSector.mk y21.at_ r23)] : List DSector))))
else none
else
some (.inr p10)
noncomputable def g366 (a0 : DDevice) : Option DDevice :=
(g325 a0.held).bind fun r1 =>
(iter (g366_l0 a0) (0, ([] : List DSector))).bind fun r26 =>
(match r26 with
| p19 =>
some (DDevice.mk r1 p19))
noncomputable def g328_l0 (a1 : Int) (a2 : List UInt8) (v6 : Int) (p13 : List UInt8) (s14 : List UInt8) (s : Int × (List DSector)) : Option ((Int × (List DSector)) ⊕ ((List DSector))) :=
match s with
| (p24, p25) =>
if (decide (p24 ≤ v6)) = true then
(slc (ovl p13 a1.toNat (a2.take s14.length)) (IntKind.i64.wrap (32 * p24)) (IntKind.i64.wrap (32 * (IntKind.i64.wrap (p24 + 1))))).bind fun s36 =>
(g325 s36).bind fun r38 =>
if (p25.length + ([(DSector.mk p24 r38)] : List DSector).length) * 32 ≤ 140737488355328 then
some (.inl ((IntKind.i64.wrap (p24 + 1)), (p25 ++ ([(DSector.mk p24 r38)] : List DSector))))
else none
else
some (.inr p25)
noncomputable def g328_j0 (a1 : Int) (a2 : List UInt8) (r1 : DDevice) (v6 : Int) (p13 : List UInt8) : Option DDevice :=
(slc p13 a1 (p13.length : Int)).bind fun s14 =>
(iter (g328_l0 a1 a2 v6 p13 s14) ((IntKind.i64.wrap ((a1).tdiv 32)), r1.waiting)).bind fun r41 =>
(match r41 with
| p34 =>
some (DDevice.mk r1.held p34))
noncomputable def g328 (a0 : DDevice) (a1 : Int) (a2 : List UInt8) : Option DDevice :=
(g366 a0).bind fun r1 =>
if ((a2.length : Int) == 0) = true then
some r1
else
(g263 a0).bind fun r4 =>
bindv (IntKind.i64.wrap (((IntKind.i64.wrap ((IntKind.i64.wrap (a1 + (a2.length : Int))) - 1))).tdiv 32)) fun v6 =>
bindv ((decide ((r4.length : Int) < (IntKind.i64.wrap (32 * (IntKind.i64.wrap (v6 + 1))))))) fun v8 =>
if v8 = true then
if 0 ≤ (IntKind.i64.wrap ((IntKind.i64.wrap (32 * (IntKind.i64.wrap (v6 + 1)))) - (r4.length : Int))) then
if ((r4.length : Int) + (IntKind.i64.wrap ((IntKind.i64.wrap (32 * (IntKind.i64.wrap (v6 + 1)))) - (r4.length : Int)))) * 1 ≤ 140737488355328 then
g328_j0 a1 a2 r1 v6 (r4 ++ List.replicate (IntKind.i64.wrap ((IntKind.i64.wrap (32 * (IntKind.i64.wrap (v6 + 1)))) - (r4.length : Int))).toNat (0 : UInt8))
else none
else none
else
g328_j0 a1 a2 r1 v6 r4
noncomputable def g265 (a0 : DDevice) (a1 : Int) (a2 : List UInt8) : Option (DDevice × Int) :=
(g327 a1 (a2.length : Int)).bind fun r1 =>
if (!r1) = true then
some ((DDevice.mk ([] : List UInt8) ([] : List DSector)), 9)
else
(g328 a0 a1 a2).bind fun r4 =>
(g269 r4.waiting).bind fun r6 =>
if (!r6) = true then
some ((DDevice.mk ([] : List UInt8) ([] : List DSector)), 6)
else
some (r4, 0)
noncomputable def g214 (a0 : DDevice) (a1 : Int) (a2 : List UInt8) : Option (DDevice × Int) :=
(g264 a2).bind fun r1 =>
if (!r1) = true then
some ((DDevice.mk ([] : List UInt8) ([] : List DSector)), 2)
else
(g216 a0).bind fun r4 =>
if (!r4) = true then
some ((DDevice.mk ([] : List UInt8) ([] : List DSector)), 1)
else
(g265 a0 a1 a2).bind fun r7 =>
some (r7.1, r7.2)
noncomputable def g83 (a0 : List UInt8) : Option Dl00Src :=
some (Dl00Src.mk a0 0 (((a0.length : Int)).tmod 1000))
noncomputable def g139 (a0 : Dl00Src) : Option (Int × Dl00Src) :=
if (decide ((IntKind.i64.wrap (a0.at_ + 1)) ≤ (a0.code_.length : Int))) = true then
(idx a0.code_ (IntKind.i64.wrap ((IntKind.i64.wrap (a0.at_ + 1)) - 1))).bind fun y2 =>
bindv (((IntKind.i64.wrap ((IntKind.i64.wrap ((IntKind.i64.wrap (a0.seed * 31)) + (IntKind.i64.wrap ((y2).toNat : Int)))) + 7))).tmod 2147483648) fun v4 =>
(idx a0.code_ (IntKind.i64.wrap ((IntKind.i64.wrap (a0.at_ + 1)) - 1))).bind fun y6 =>
some (IntKind.i64.wrap ((y6).toNat : Int), (Dl00Src.mk a0.code_ (IntKind.i64.wrap (a0.at_ + 1)) v4))
else
if (decide ((IntKind.i64.wrap (a0.at_ + 1)) > 3000)) = true then
some (0, (Dl00Src.mk a0.code_ (IntKind.i64.wrap (a0.at_ + 1)) a0.seed))
else
bindv (((IntKind.i64.wrap ((IntKind.i64.wrap (a0.seed * 1103515245)) + 12345))).tmod 2147483648) fun v9 =>
some (((IntKind.i64.wrap ((v9).tdiv 65536))).tmod 256, (Dl00Src.mk a0.code_ (IntKind.i64.wrap (a0.at_ + 1)) v9))
noncomputable def g117 (a0 : Dl00Src) (a1 : Int) : Option (Int × Dl00Src) :=
if (decide (a1 ≤ 1)) = true then
some (0, a0)
else
if (decide (a1 ≤ 256)) = true then
(g139 a0).bind fun r3 =>
if a1 ≠ 0 then
some ((r3.1).tmod a1, r3.2)
else none
else
(g139 a0).bind fun r6 =>
(g139 r6.2).bind fun r8 =>
(g139 r8.2).bind fun r10 =>
if a1 ≠ 0 then
bindv (((IntKind.i64.wrap ((IntKind.i64.wrap ((IntKind.i64.wrap (r6.1 * 65536)) + (IntKind.i64.wrap (r8.1 * 256)))) + r10.1))).tmod a1) fun v13 =>
some (v13, r10.2)
else none
noncomputable def g118 (a0 : Dl00Src) (a1 : Int) : Option Int :=
bindv (if a1 < (IntKind.i64.wrap (1 + (IntKind.i64.wrap (((a0.code_.length : Int)).tdiv 12)))) then a1 else (IntKind.i64.wrap (1 + (IntKind.i64.wrap (((a0.code_.length : Int)).tdiv 12))))) fun v1 =>
some v1
noncomputable def g272_l0  (s : (List UInt8) × Int × (List UInt8) × Int × Int) : Option (((List UInt8) × Int × (List UInt8) × Int × Int) ⊕ ((List UInt8) × (List UInt8) × Int × Int)) :=
match s with
| (p7, p8, p9, p10, p11) =>
if (decide (p8 > 0)) = true then
(g117 (Dl00Src.mk p9 p10 p11) 256).bind fun r26 =>
if (p7.length + ([b8 r26.1] : List UInt8).length) * 1 ≤ 140737488355328 then
some (.inl ((p7 ++ ([b8 r26.1] : List UInt8)), (IntKind.i64.wrap (p8 - 1)), r26.2.code_, r26.2.at_, r26.2.seed))
else none
else
some (.inr (p7, p9, p10, p11))
noncomputable def g272 (a0 : Dl00Src) (a1 : Int) : Option ((List UInt8) × Dl00Src) :=
(g117 a0 (IntKind.i64.wrap (a1 + 1))).bind fun r1 =>
(iter (g272_l0) (([] : List UInt8), r1.1, r1.2.code_, r1.2.at_, r1.2.seed)).bind fun r29 =>
(match r29 with
| (p21, p22, p23, p24) =>
some (p21, (Dl00Src.mk p22 p23 p24)))
noncomputable def g217_l0  (s : (List (List UInt8)) × Int × (List UInt8) × Int × Int) : Option (((List (List UInt8)) × Int × (List UInt8) × Int × Int) ⊕ ((List (List UInt8)))) :=
match s with
| (p11, p12, p13, p14, p15) =>
if (decide (p12 > 0)) = true then
(g272 (Dl00Src.mk p13 p14 p15) 30).bind fun r27 =>
if (p11.length + ([r27.1] : List (List UInt8)).length) * 24 ≤ 140737488355328 then
some (.inl ((p11 ++ ([r27.1] : List (List UInt8))), (IntKind.i64.wrap (p12 - 1)), r27.2.code_, r27.2.at_, r27.2.seed))
else none
else
some (.inr p11)
noncomputable def g217 (a0 : List UInt8) : Option (List (List UInt8)) :=
(g83 a0).bind fun r1 =>
(g118 r1 6).bind fun r3 =>
(g117 r1 (IntKind.i64.wrap (r3 + 2))).bind fun r5 =>
(iter (g217_l0) (([] : List (List UInt8)), r5.1, r5.2.code_, r5.2.at_, r5.2.seed)).bind fun r30 =>
(match r30 with
| p25 =>
some p25)
noncomputable def g331_l0 (a0 : Int) (a1 : Int) (s : (List UInt8) × Int) : Option (((List UInt8) × Int) ⊕ ((List UInt8))) :=
match s with
| (p9, p10) =>
if (decide (p10 < ((List.replicate a1.toNat (0 : UInt8)).length : Int))) = true then
if 0 ≤ (IntKind.i64.wrap (8 * p10)) then
(idx p9 (IntKind.i64.wrap ((IntKind.i64.wrap (a1 - 1)) - p10))).bind fun y22 =>
(p9[(IntKind.i64.wrap ((IntKind.i64.wrap (a1 - 1)) - p10)).toNat]?).bind fun y24 =>
some (.inl ((p9.set ((IntKind.i64.wrap ((IntKind.i64.wrap (a1 - 1)) - p10)).toNat) (b8 (ishr .i64 a0 (IntKind.i64.wrap (8 * p10))))), (IntKind.i64.wrap (p10 + 1))))
else none
else
some (.inr p9)
noncomputable def g331 (a0 : Int) (a1 : Int) : Option (List UInt8) :=
if 0 ≤ a1 then
if a1 * 1 ≤ 140737488355328 then
(iter (g331_l0 a0 a1) ((List.replicate a1.toNat (0 : UInt8)), 0)).bind fun r26 =>
(match r26 with
| p19 =>
some p19)
else none
else none
noncomputable def g332_j0 (p49 : Int) (p58 : Int) : Option ((Int × Int) ⊕ (Int)) :=
some (.inl (p58, (IntKind.i64.wrap (p49 + 1))))
noncomputable def g332_l1  (s : Int × Int) : Option ((Int × Int) ⊕ (Int)) :=
match s with
| (p48, p49) =>
if (decide (p49 < 8)) = true then
if ((iand .u32 p48 1) == 1) = true then
g332_j0 p49 (ixor .u32 (ishr .u32 p48 1) 3988292384)
else
g332_j0 p49 (ishr .u32 p48 1)
else
some (.inr p48)
noncomputable def g332_l0 (a0 : List UInt8) (s : Int × Int) : Option ((Int × Int) ⊕ (Int)) :=
match s with
| (p19, p20) =>
if (decide (p20 < (a0.length : Int))) = true then
(idx a0 p20).bind fun y41 =>
(iter (g332_l1) ((ixor .u32 p19 (IntKind.u32.wrap ((y41).toNat : Int))), 0)).bind fun r61 =>
(match r61 with
| p55 =>
some (.inl (p55, (IntKind.i64.wrap (p20 + 1)))))
else
some (.inr p19)
noncomputable def g332 (a0 : List UInt8) : Option Int :=
(iter (g332_l0 a0) (4294967295, 0)).bind fun r63 =>
(match r63 with
| p39 =>
some (IntKind.i64.wrap (inot .u32 p39)))
noncomputable def g274 (a0 : List UInt8) : Option (List UInt8) :=
(g331 (IntKind.i64.wrap ((a0.length : Int) + 1)) 2).bind fun r1 =>
if (r1.length + a0.length) * 1 ≤ 140737488355328 then
(g332 (r1 ++ a0)).bind fun r4 =>
(g331 r4 4).bind fun r6 =>
if ((r1 ++ a0).length + r6.length) * 1 ≤ 140737488355328 then
some ((r1 ++ a0) ++ r6)
else none
else none
noncomputable def g219 (a0 : List UInt8) : Option ((List UInt8) × Int) :=
(g264 a0).bind fun r1 =>
if (!r1) = true then
some ([], 2)
else
if (decide ((a0.length : Int) > 2000)) = true then
some ([], 4)
else
(g274 a0).bind fun r5 =>
some (r5, 0)
noncomputable def g333_l0 (a0 : List UInt8) (s : Int × Int) : Option ((Int × Int) ⊕ (Int)) :=
match s with
| (p4, p5) =>
if (decide (p5 < (a0.length : Int))) = true then
(idx a0 p5).bind fun y13 =>
some (.inl ((ior .i64 (ishl .i64 p4 8) (IntKind.i64.wrap ((y13).toNat : Int))), (IntKind.i64.wrap (p5 + 1))))
else
some (.inr p4)
noncomputable def g333 (a0 : List UInt8) : Option Int :=
(iter (g333_l0 a0) (0, 0)).bind fun r15 =>
(match r15 with
| p11 =>
some p11)
noncomputable def g275_l0 (a0 : List UInt8) (s : (List (List UInt8)) × Int) : Option (((List (List UInt8)) × Int) ⊕ ((List (List UInt8)) × Int)) :=
match s with
| (p26, p27) =>
if (decide ((IntKind.i64.wrap (p27 + 2)) ≤ (a0.length : Int))) = true then
(slc a0 p27 (IntKind.i64.wrap (p27 + 2))).bind fun s58 =>
(g333 s58).bind fun r60 =>
bindv (IntKind.i64.wrap ((IntKind.i64.wrap (p27 + 2)) + (IntKind.i64.wrap (r60 - 1)))) fun v62 =>
(g63 (IntKind.i64.wrap (r60 - 1)) 0 2000).bind fun r64 =>
(if ((bif (!r64) then true else (decide ((IntKind.i64.wrap (v62 + 4)) > (a0.length : Int)))) == false) = true then slc a0 p27 v62 else some default).bind fun s66 =>
(if ((bif (!r64) then true else (decide ((IntKind.i64.wrap (v62 + 4)) > (a0.length : Int)))) == false) = true then slc a0 v62 (IntKind.i64.wrap (v62 + 4)) else some default).bind fun s68 =>
(if ((bif (!r64) then true else (decide ((IntKind.i64.wrap (v62 + 4)) > (a0.length : Int)))) == false) = true then g332 s66 else some default).bind fun r70 =>
(if ((bif (!r64) then true else (decide ((IntKind.i64.wrap (v62 + 4)) > (a0.length : Int)))) == false) = true then g333 s68 else some default).bind fun r72 =>
bindv ((bif (bif (!r64) then true else (decide ((IntKind.i64.wrap (v62 + 4)) > (a0.length : Int)))) then true else (r70 != r72))) fun v74 =>
if v74 = true then
some (.inr (p26, p27))
else
(slc a0 (IntKind.i64.wrap (p27 + 2)) v62).bind fun s77 =>
(g325 s77).bind fun r79 =>
if (p26.length + ([r79] : List (List UInt8)).length) * 24 ≤ 140737488355328 then
some (.inl ((p26 ++ ([r79] : List (List UInt8))), (IntKind.i64.wrap (v62 + 4))))
else none
else
some (.inr (p26, p27))
noncomputable def g275 (a0 : List UInt8) : Option ((List (List UInt8)) × Int) :=
(iter (g275_l0 a0) ([], 0)).bind fun r82 =>
(match r82 with
| (p55, p56) =>
some (p55, p56))
noncomputable def g220 (a0 : DDevice) : Option ((List (List UInt8)) × Int) :=
(g216 a0).bind fun r1 =>
if (!r1) = true then
some ([], 1)
else
(g263 a0).bind fun r4 =>
(g275 r4).bind fun r6 =>
some (r6.1, 0)
noncomputable def g222_l0 (a0 : List (List UInt8)) (a1 : List (List UInt8)) (s : Int) : Option ((Int) ⊕ (Unit ⊕ Bool)) :=
match s with
| p8 =>
if (decide (p8 < (a0.length : Int))) = true then
(idx a0 p8).bind fun y17 =>
(idx a1 p8).bind fun y19 =>
if (!(y17 == y19)) = true then
some (.inr (.inr false))
else
some (.inl (IntKind.i64.wrap (p8 + 1)))
else
some (.inr (.inl ()))
noncomputable def g222 (a0 : List (List UInt8)) (a1 : List (List UInt8)) : Option Bool :=
if ((a0.length : Int) != (a1.length : Int)) = true then
some false
else
(iter (g222_l0 a0 a1) 0).bind fun r22 =>
(match r22 with
| .inl () =>
some true
| .inr q => some q)
noncomputable def g56 (a0 : Int) (a1 : Int) (a2 : Int) : Option Bool :=
some (bif (decide (a0 ≥ a1)) then (decide (a0 ≤ a2)) else false)
noncomputable def g290_l0 (a0 : DDevice) (s : Int) : Option ((Int) ⊕ (Unit ⊕ Bool)) :=
match s with
| p12 =>
if (decide (p12 < (a0.waiting.length : Int))) = true then
(idx a0.waiting p12).bind fun y23 =>
(g56 y23.at_ 0 127).bind fun r25 =>
(if ((!r25) == false) = true then idx a0.waiting p12 else some default).bind fun y27 =>
if (bif (!r25) then true else ((y27.data.length : Int) != 32)) = true then
some (.inr (.inr false))
else
some (.inl (IntKind.i64.wrap (p12 + 1)))
else
some (.inr (.inl ()))
noncomputable def g290 (a0 : DDevice) : Option Bool :=
bindv ((bif (bif ((((a0.held.length : Int)).tmod 32) != 0) then true else (decide ((a0.held.length : Int) > 4096))) then true else (decide ((a0.waiting.length : Int) > 4096)))) fun v1 =>
if v1 = true then
some false
else
(iter (g290_l0 a0) 0).bind fun r30 =>
(match r30 with
| .inl () =>
some true
| .inr q => some q)
noncomputable def g291 (a0 : Int) (a1 : Int) : Option Bool :=
bindv ((bif (bif (decide (a0 ≥ 0)) then (decide (a1 ≤ 4096)) else false) then (decide (a0 ≤ (IntKind.i64.wrap (4096 - a1)))) else false)) fun v1 =>
some v1
noncomputable def g352_l0 (a1 : DSector) (s : (List UInt8)) : Option (((List UInt8)) ⊕ ((List UInt8))) :=
match s with
| p7 =>
bindv ((decide ((p7.length : Int) < (IntKind.i64.wrap ((IntKind.i64.wrap (a1.at_ + 1)) * 32))))) fun v15 =>
if v15 = true then
if 0 ≤ (32 : Int) then
if ((p7.length : Int) + (32 : Int)) * 1 ≤ 140737488355328 then
some (.inl (p7 ++ List.replicate (32 : Int).toNat (0 : UInt8)))
else none
else none
else
some (.inr p7)
noncomputable def g352 (a0 : List UInt8) (a1 : DSector) : Option (List UInt8) :=
if (([] : List UInt8).length + a0.length) * 1 ≤ 140737488355328 then
(iter (g352_l0 a1) (([] : List UInt8) ++ a0)).bind fun r20 =>
(match r20 with
| p14 =>
(slc p14 (IntKind.i64.wrap (a1.at_ * 32)) (p14.length : Int)).bind fun s22 =>
bindv (ovl p14 ((IntKind.i64.wrap (a1.at_ * 32)).toNat) (a1.data.take s22.length)) fun v24 =>
some v24)
else none
noncomputable def g303_l0 (a0 : DDevice) (s : (List UInt8) × Int) : Option (((List UInt8) × Int) ⊕ ((List UInt8))) :=
match s with
| (p7, p8) =>
if (decide (p8 < (a0.waiting.length : Int))) = true then
(idx a0.waiting p8).bind fun y18 =>
(g352 p7 y18).bind fun r20 =>
some (.inl (r20, (IntKind.i64.wrap (p8 + 1))))
else
some (.inr p7)
noncomputable def g303 (a0 : DDevice) : Option (List UInt8) :=
if (([] : List UInt8).length + a0.held.length) * 1 ≤ 140737488355328 then
(iter (g303_l0 a0) ((([] : List UInt8) ++ a0.held), 0)).bind fun r22 =>
(match r22 with
| p16 =>
some p16)
else none
noncomputable def g292_l0 (a1 : Int) (a2 : List UInt8) (s : (List UInt8)) : Option (((List UInt8)) ⊕ ((List UInt8))) :=
match s with
| p7 =>
bindv ((bif (decide ((p7.length : Int) < (IntKind.i64.wrap (a1 + (a2.length : Int))))) then true else ((((p7.length : Int)).tmod 32) != 0))) fun v14 =>
if v14 = true then
if (p7.length + ([(0 : UInt8)] : List UInt8).length) * 1 ≤ 140737488355328 then
some (.inl (p7 ++ ([(0 : UInt8)] : List UInt8)))
else none
else
some (.inr p7)
noncomputable def g292_l1 (a1 : Int) (a2 : List UInt8) (p13 : List UInt8) (s20 : List UInt8) (s : Int × (List DSector)) : Option ((Int × (List DSector)) ⊕ ((List DSector))) :=
match s with
| (p34, p35) =>
bindv ((decide ((IntKind.i64.wrap (p34 * 32)) < (IntKind.i64.wrap (a1 + (a2.length : Int)))))) fun v46 =>
if v46 = true then
(slc (ovl p13 a1.toNat (a2.take s20.length)) (IntKind.i64.wrap (p34 * 32)) (IntKind.i64.wrap ((IntKind.i64.wrap (p34 + 1)) * 32))).bind fun s49 =>
if (([] : List UInt8).length + s49.length) * 1 ≤ 140737488355328 then
if (p35.length + ([(DSector.mk p34 (([] : List UInt8) ++ s49))] : List DSector).length) * 32 ≤ 140737488355328 then
some (.inl ((IntKind.i64.wrap (p34 + 1)), (p35 ++ ([(DSector.mk p34 (([] : List UInt8) ++ s49))] : List DSector))))
else none
else none
else
some (.inr p35)
noncomputable def g292 (a0 : DDevice) (a1 : Int) (a2 : List UInt8) : Option DDevice :=
(g303 a0).bind fun r1 =>
(iter (g292_l0 a1 a2) r1).bind fun r18 =>
(match r18 with
| p13 =>
(slc p13 a1 (p13.length : Int)).bind fun s20 =>
if (([] : List DSector).length + a0.waiting.length) * 32 ≤ 140737488355328 then
if ((a2.length : Int) == 0) = true then
some (DDevice.mk a0.held (([] : List DSector) ++ a0.waiting))
else
(iter (g292_l1 a1 a2 p13 s20) ((IntKind.i64.wrap ((a1).tdiv 32)), (([] : List DSector) ++ a0.waiting))).bind fun r53 =>
(match r53 with
| p45 =>
some (DDevice.mk a0.held p45))
else none)
noncomputable def g353_j0 (p47 : Int) (p56 : Int) : Option ((Int × Int) ⊕ (Int)) :=
some (.inl (p56, (IntKind.i64.wrap (p47 + 1))))
noncomputable def g353_l1  (s : Int × Int) : Option ((Int × Int) ⊕ (Int)) :=
match s with
| (p46, p47) =>
if (decide (p47 < 8)) = true then
if (((p46).tmod 2) == 1) = true then
g353_j0 p47 (ixor .i64 (IntKind.i64.wrap ((p46).tdiv 2)) 3988292384)
else
g353_j0 p47 (IntKind.i64.wrap ((p46).tdiv 2))
else
some (.inr p46)
noncomputable def g353_l0 (a0 : List UInt8) (s : Int × Int) : Option ((Int × Int) ⊕ (Int)) :=
match s with
| (p17, p18) =>
if (decide (p18 < (a0.length : Int))) = true then
(idx a0 p18).bind fun y39 =>
(iter (g353_l1) ((ixor .i64 p17 (IntKind.i64.wrap ((y39).toNat : Int))), 0)).bind fun r59 =>
(match r59 with
| p53 =>
some (.inl (p53, (IntKind.i64.wrap (p18 + 1)))))
else
some (.inr p17)
noncomputable def g353 (a0 : List UInt8) : Option Int :=
(iter (g353_l0 a0) (4294967295, 0)).bind fun r61 =>
(match r61 with
| p37 =>
some (ixor .i64 p37 4294967295))
noncomputable def g304 (a0 : List UInt8) : Option (List UInt8) :=
if (([b8 (IntKind.i64.wrap (((IntKind.i64.wrap ((a0.length : Int) + 1))).tdiv 256)), b8 (((IntKind.i64.wrap ((a0.length : Int) + 1))).tmod 256)] : List UInt8).length + a0.length) * 1 ≤ 140737488355328 then
bindv (([b8 (IntKind.i64.wrap (((IntKind.i64.wrap ((a0.length : Int) + 1))).tdiv 256)), b8 (((IntKind.i64.wrap ((a0.length : Int) + 1))).tmod 256)] : List UInt8) ++ a0) fun v2 =>
(g353 v2).bind fun r4 =>
if (v2.length + ([b8 (IntKind.i64.wrap ((r4).tdiv 16777216)), b8 (((IntKind.i64.wrap ((r4).tdiv 65536))).tmod 256), b8 (((IntKind.i64.wrap ((r4).tdiv 256))).tmod 256), b8 ((r4).tmod 256)] : List UInt8).length) * 1 ≤ 140737488355328 then
bindv (v2 ++ ([b8 (IntKind.i64.wrap ((r4).tdiv 16777216)), b8 (((IntKind.i64.wrap ((r4).tdiv 65536))).tmod 256), b8 (((IntKind.i64.wrap ((r4).tdiv 256))).tmod 256), b8 ((r4).tmod 256)] : List UInt8)) fun v7 =>
some v7
else none
else none
noncomputable def g351_l0 (a0 : List UInt8) (a1 : Int) (v6 : Int) (r14 : (List UInt8)) (s : Int) : Option ((Int) ⊕ (Unit ⊕ ((List UInt8) × Bool))) :=
match s with
| p24 =>
if (decide (p24 < 4)) = true then
(idx a0 (IntKind.i64.wrap ((IntKind.i64.wrap ((IntKind.i64.wrap (a1 + 2)) + v6)) + p24))).bind fun y35 =>
(idx r14 (IntKind.i64.wrap ((IntKind.i64.wrap (2 + v6)) + p24))).bind fun y37 =>
(r14[(IntKind.i64.wrap ((IntKind.i64.wrap (2 + v6)) + p24)).toNat]?).bind fun y39 =>
if (((y35).toNat : Int) != ((y39).toNat : Int)) = true then
some (.inr (.inr (([] : List UInt8), false)))
else
some (.inl (IntKind.i64.wrap (p24 + 1)))
else
some (.inr (.inl ()))
noncomputable def g351 (a0 : List UInt8) (a1 : Int) : Option ((List UInt8) × Bool) :=
if (decide ((IntKind.i64.wrap (a1 + 2)) > (a0.length : Int))) = true then
some (([] : List UInt8), false)
else
(idx a0 a1).bind fun y2 =>
(idx a0 (IntKind.i64.wrap (a1 + 1))).bind fun y4 =>
bindv (IntKind.i64.wrap ((IntKind.i64.wrap ((IntKind.i64.wrap ((IntKind.i64.wrap ((y2).toNat : Int)) * 256)) + (IntKind.i64.wrap ((y4).toNat : Int)))) - 1)) fun v6 =>
bindv ((bif (bif (decide (v6 < 0)) then true else (decide (v6 > 2000))) then true else (decide ((IntKind.i64.wrap ((IntKind.i64.wrap (a1 + v6)) + 6)) > (a0.length : Int))))) fun v8 =>
if v8 = true then
some (([] : List UInt8), false)
else
(slc a0 (IntKind.i64.wrap (a1 + 2)) (IntKind.i64.wrap ((IntKind.i64.wrap (a1 + 2)) + v6))).bind fun s11 =>
if (([] : List UInt8).length + s11.length) * 1 ≤ 140737488355328 then
(g304 (([] : List UInt8) ++ s11)).bind fun r14 =>
(iter (g351_l0 a0 a1 v6 r14) 0).bind fun r42 =>
(match r42 with
| .inl () =>
some (([] : List UInt8) ++ s11, true)
| .inr q => some q)
else none
noncomputable def g302_l0 (a0 : List UInt8) (s : (List (List UInt8)) × Int) : Option (((List (List UInt8)) × Int) ⊕ ((List (List UInt8)) × Int)) :=
match s with
| (p5, p6) =>
(g351 a0 p6).bind fun r13 =>
if (!r13.2) = true then
some (.inr (p5, p6))
else
if (p5.length + ([r13.1] : List (List UInt8)).length) * 24 ≤ 140737488355328 then
some (.inl ((p5 ++ ([r13.1] : List (List UInt8))), (IntKind.i64.wrap (p6 + (IntKind.i64.wrap ((r13.1.length : Int) + 6))))))
else none
noncomputable def g302 (a0 : List UInt8) : Option ((List (List UInt8)) × Int) :=
(iter (g302_l0 a0) (([] : List (List UInt8)), 0)).bind fun r17 =>
(match r17 with
| q => some q)
noncomputable def g240 (a0 : DDevice) (a1 : List UInt8) : Option (DDevice × Int) :=
if (decide ((a1.length : Int) > 65536)) = true then
some ((DDevice.mk ([] : List UInt8) ([] : List DSector)), 2)
else
(g290 a0).bind fun r2 =>
if (!r2) = true then
some ((DDevice.mk ([] : List UInt8) ([] : List DSector)), 1)
else
if (decide ((a1.length : Int) > 2000)) = true then
some ((DDevice.mk ([] : List UInt8) ([] : List DSector)), 4)
else
(g303 a0).bind fun r6 =>
(g302 r6).bind fun r8 =>
(g304 a1).bind fun r10 =>
(g291 r8.2 (r10.length : Int)).bind fun r12 =>
if (!r12) = true then
some ((DDevice.mk ([] : List UInt8) ([] : List DSector)), 9)
else
(g292 a0 r8.2 r10).bind fun r15 =>
(g303 r15).bind fun r17 =>
some ((DDevice.mk r17 ([] : List DSector)), 0)
noncomputable def g241 (a0 : List UInt8) : Option ((List UInt8) × Int) :=
if (decide ((a0.length : Int) > 65536)) = true then
some (([] : List UInt8), 2)
else
if (decide ((a0.length : Int) > 2000)) = true then
some (([] : List UInt8), 4)
else
(g304 a0).bind fun r3 =>
some (r3, 0)
noncomputable def g268_j0 (p13 : Int) (p34 : List UInt8) : Option (((List UInt8) × Int) ⊕ ((List UInt8))) :=
some (.inl (p34, (IntKind.i64.wrap (p13 + 1))))
noncomputable def g268_l0 (a0 : DDevice) (a1 : List Bool) (s : (List UInt8) × Int) : Option (((List UInt8) × Int) ⊕ ((List UInt8))) :=
match s with
| (p12, p13) =>
if (decide (p13 < (a0.waiting.length : Int))) = true then
(idx a0.waiting p13).bind fun y36 =>
(if ((decide (p13 < (a1.length : Int))) == true) = true then idx a1 p13 else some default).bind fun y38 =>
if (bif (decide (p13 < (a1.length : Int))) then y38 else false) = true then
(g326 p12 y36).bind fun r41 =>
g268_j0 p13 r41
else
g268_j0 p13 p12
else
some (.inr p12)
noncomputable def g268 (a0 : DDevice) (a1 : List Bool) : Option DDevice :=
(g325 a0.held).bind fun r1 =>
(iter (g268_l0 a0 a1) (r1, 0)).bind fun r43 =>
(match r43 with
| p25 =>
some (DDevice.mk p25 ([] : List DSector)))
noncomputable def g305 (a0 : List Bool) : Option Bool :=
some (decide ((a0.length : Int) ≤ 4096))
noncomputable def g242 (a0 : DDevice) (a1 : List Bool) : Option (DDevice × Int) :=
(g305 a1).bind fun r1 =>
if (!r1) = true then
some ((DDevice.mk ([] : List UInt8) ([] : List DSector)), 2)
else
(g216 a0).bind fun r4 =>
if (!r4) = true then
some ((DDevice.mk ([] : List UInt8) ([] : List DSector)), 1)
else
(g268 a0 a1).bind fun r7 =>
some (r7, 0)
noncomputable def g119 (a0 : Dl00Src) (a1 : Int) : Option (Bool × Dl00Src) :=
(g117 a0 a1).bind fun r1 =>
some ((r1.1 == (IntKind.i64.wrap (a1 - 1))), r1.2)
noncomputable def g306_l0  (s : (List Bool) × Int × (List UInt8) × Int × Int) : Option (((List Bool) × Int × (List UInt8) × Int × Int) ⊕ ((List Bool) × (List UInt8) × Int × Int)) :=
match s with
| (p7, p8, p9, p10, p11) =>
if (decide (p8 > 0)) = true then
(g119 (Dl00Src.mk p9 p10 p11) 2).bind fun r26 =>
if (p7.length + ([r26.1] : List Bool).length) * 1 ≤ 140737488355328 then
some (.inl ((p7 ++ ([r26.1] : List Bool)), (IntKind.i64.wrap (p8 - 1)), r26.2.code_, r26.2.at_, r26.2.seed))
else none
else
some (.inr (p7, p9, p10, p11))
noncomputable def g306 (a0 : Dl00Src) (a1 : Int) : Option ((List Bool) × Dl00Src) :=
(g117 a0 (IntKind.i64.wrap (a1 + 1))).bind fun r1 =>
(iter (g306_l0) (([] : List Bool), r1.1, r1.2.code_, r1.2.at_, r1.2.seed)).bind fun r29 =>
(match r29 with
| (p21, p22, p23, p24) =>
some (p21, (Dl00Src.mk p22 p23 p24)))
noncomputable def g243 (a0 : List UInt8) : Option (List Bool) :=
(g83 a0).bind fun r1 =>
(g306 r1 12).bind fun r3 =>
some r3.1
noncomputable def g206_l0 (r4 : (List (List UInt8))) (s : Int × Int × (List UInt8) × (List DSector)) : Option ((Int × Int × (List UInt8) × (List DSector)) ⊕ ((Int × (List UInt8) × (List DSector)) ⊕ Bool)) :=
match s with
| (p21, p22, p23, p24) =>
if (decide ((IntKind.i64.wrap (p22 + 1)) < (r4.length : Int))) = true then
(idx r4 p22).bind fun y48 =>
(r4[p22.toNat]?).bind fun y50 =>
(g240 (DDevice.mk p23 p24) y50).bind fun r52 =>
(idx r4 p22).bind fun y55 =>
(r4[p22.toNat]?).bind fun y57 =>
(g241 y57).bind fun r59 =>
if (r52.2 != 0) = true then
some (.inr (.inr true))
else
some (.inl ((IntKind.i64.wrap (p21 + (r59.1.length : Int))), (IntKind.i64.wrap (p22 + 1)), r52.1.held, r52.1.waiting))
else
some (.inr (.inl (p21, p23, p24)))
noncomputable def g206_l1  (s : (List Bool) × Int) : Option (((List Bool) × Int) ⊕ ((List Bool))) :=
match s with
| (p97, p98) =>
if (decide (p98 < (p97.length : Int))) = true then
(idx p97 p98).bind fun y108 =>
(p97[p98.toNat]?).bind fun y110 =>
some (.inl ((p97.set p98.toNat true), (IntKind.i64.wrap (p98 + 1))))
else
some (.inr p97)
noncomputable def g206 (a0 : List UInt8) (a1 : List UInt8) : Option Bool :=
bindv ((bif (decide ((a0.length : Int) > 1048576)) then true else (decide ((a1.length : Int) > 1048576)))) fun v1 =>
if v1 = true then
some true
else
(g217 a0).bind fun r4 =>
(iter (g206_l0 r4) (0, 0, ([] : List UInt8), ([] : List DSector))).bind fun r62 =>
(match r62 with
| .inl (p44, p45, p46) =>
if ((r4.length : Int) == 0) = true then
some true
else
(idx r4 (IntKind.i64.wrap ((r4.length : Int) - 1))).bind fun y65 =>
(r4[(IntKind.i64.wrap ((r4.length : Int) - 1)).toNat]?).bind fun y67 =>
(g219 y67).bind fun r69 =>
(g214 (DDevice.mk p45 p46) p44 r69.1).bind fun r71 =>
if (r71.2 == 9) = true then
some true
else
(g243 a1).bind fun r74 =>
(g242 r71.1 r74).bind fun r76 =>
(g220 r76.1).bind fun r79 =>
(g220 r71.1).bind fun r81 =>
(if ((bif (bif (bif (r71.2 != 0) then true else (r76.2 != 0)) then true else (r79.2 != 0)) then true else (r81.2 != 0)) == false) = true then g222 r81.1 r4 else some default).bind fun r83 =>
bindv ((bif (bif (bif (bif (r71.2 != 0) then true else (r76.2 != 0)) then true else (r79.2 != 0)) then true else (r81.2 != 0)) then true else (!r83))) fun v85 =>
if v85 = true then
some false
else
if 0 ≤ (r71.1.waiting.length : Int) then
if (r71.1.waiting.length : Int) * 1 ≤ 140737488355328 then
(iter (g206_l1) ((List.replicate (r71.1.waiting.length : Int).toNat false), 0)).bind fun r112 =>
(match r112 with
| p106 =>
(g242 r71.1 p106).bind fun r114 =>
(g220 r114.1).bind fun r116 =>
(if ((bif (r114.2 == 0) then (r116.2 == 0) else false) == true) = true then g222 r116.1 r4 else some default).bind fun r118 =>
(if ((bif (bif (bif (r114.2 == 0) then (r116.2 == 0) else false) then r118 else false) then (decide ((r79.1.length : Int) ≥ (IntKind.i64.wrap ((r4.length : Int) - 1)))) else false) == true) = true then slc r79.1 0 (IntKind.i64.wrap ((r4.length : Int) - 1)) else some default).bind fun s120 =>
(if ((bif (bif (bif (r114.2 == 0) then (r116.2 == 0) else false) then r118 else false) then (decide ((r79.1.length : Int) ≥ (IntKind.i64.wrap ((r4.length : Int) - 1)))) else false) == true) = true then slc r4 0 (IntKind.i64.wrap ((r4.length : Int) - 1)) else some default).bind fun s122 =>
(if ((bif (bif (bif (r114.2 == 0) then (r116.2 == 0) else false) then r118 else false) then (decide ((r79.1.length : Int) ≥ (IntKind.i64.wrap ((r4.length : Int) - 1)))) else false) == true) = true then g222 s120 s122 else some default).bind fun r124 =>
bindv ((bif (bif (bif (bif (r114.2 == 0) then (r116.2 == 0) else false) then r118 else false) then (decide ((r79.1.length : Int) ≥ (IntKind.i64.wrap ((r4.length : Int) - 1)))) else false) then r124 else false)) fun v126 =>
some v126)
else none
else none
| .inr q => some q)
noncomputable def g40 (a0 : List UInt8) (a1 : Int) (a2 : Int) : Option Int :=
if (decide (a2 ≤ 1)) = true then
some 0
else
if ((a0.length : Int) == 0) = true then
if a2 ≠ 0 then
some (((IntKind.i64.wrap (a1 * 7))).tmod a2)
else none
else
if (a0.length : Int) ≠ 0 then
(idx a0 ((a1).tmod (a0.length : Int))).bind fun y5 =>
(idx a0 (((IntKind.i64.wrap (a1 + 1))).tmod (a0.length : Int))).bind fun y7 =>
if a2 ≠ 0 then
bindv (((IntKind.i64.wrap ((IntKind.i64.wrap ((IntKind.i64.wrap ((IntKind.i64.wrap ((y5).toNat : Int)) * 31)) + (IntKind.i64.wrap ((y7).toNat : Int)))) + (IntKind.i64.wrap ((a1).tdiv (a0.length : Int)))))).tmod a2) fun v10 =>
some v10
else none
else none
noncomputable def g262_l0  (s : Int × (List UInt8) × (List DSector) × (List UInt8) × Int × Int) : Option ((Int × (List UInt8) × (List DSector) × (List UInt8) × Int × Int) ⊕ ((List UInt8) × (List DSector) × (List UInt8) × Int × Int)) :=
match s with
| (p14, p15, p16, p17, p18, p19) =>
if (decide (p14 > 0)) = true then
(g117 (Dl00Src.mk p17 p18 p19) 120).bind fun r39 =>
(g272 r39.2 30).bind fun r41 =>
(g292 (DDevice.mk p15 p16) r39.1 r41.1).bind fun r43 =>
some (.inl ((IntKind.i64.wrap (p14 - 1)), r43.held, r43.waiting, r41.2.code_, r41.2.at_, r41.2.seed))
else
some (.inr (p15, p16, p17, p18, p19))
noncomputable def g262 (a0 : Dl00Src) : Option (DDevice × Dl00Src) :=
(g117 a0 4).bind fun r1 =>
if 0 ≤ (IntKind.i64.wrap (32 * r1.1)) then
if (IntKind.i64.wrap (32 * r1.1)) * 1 ≤ 140737488355328 then
(g117 r1.2 4).bind fun r5 =>
(iter (g262_l0) (r5.1, (List.replicate (IntKind.i64.wrap (32 * r1.1)).toNat (0 : UInt8)), ([] : List DSector), r5.2.code_, r5.2.at_, r5.2.seed)).bind fun r45 =>
(match r45 with
| (p33, p34, p35, p36, p37) =>
some ((DDevice.mk p33 p34), (Dl00Src.mk p35 p36 p37)))
else none
else none
noncomputable def g212 (a0 : List UInt8) : Option DDevice :=
(g83 a0).bind fun r1 =>
(g262 r1).bind fun r3 =>
some r3.1
noncomputable def g213 (a0 : DDevice) : Option ((List UInt8) × Int) :=
(g216 a0).bind fun r1 =>
if (!r1) = true then
some ([], 1)
else
(g263 a0).bind fun r4 =>
some (r4, 0)
noncomputable def g266 (a0 : List DDevAct) : Option Bool :=
some (decide ((a0.length : Int) ≤ 4096))
noncomputable def g267 (a0 : DDevice) : Option DDevice :=
(g263 a0).bind fun r1 =>
some (DDevice.mk r1 ([] : List DSector))
noncomputable def g215_j0 (p22 : List Int) (p23 : Int) (p63 : Int) (p64 : List UInt8) (p65 : List DSector) : Option (((List Int) × Int × (List UInt8) × (List DSector)) ⊕ ((List Int) × (List UInt8) × (List DSector))) :=
if (p22.length + ([p63] : List Int).length) * 8 ≤ 140737488355328 then
some (.inl ((p22 ++ ([p63] : List Int)), (IntKind.i64.wrap (p23 + 1)), p64, p65))
else none
noncomputable def g215_l0 (a0 : List DDevAct) (s : (List Int) × Int × (List UInt8) × (List DSector)) : Option (((List Int) × Int × (List UInt8) × (List DSector)) ⊕ ((List Int) × (List UInt8) × (List DSector))) :=
match s with
| (p22, p23, p24, p25) =>
if (decide (p23 < (a0.length : Int))) = true then
(idx a0 p23).bind fun y51 =>
if (y51.kind == 1) = true then
(g265 (DDevice.mk p24 p25) y51.at_ y51.data).bind fun r69 =>
if (r69.2 == 0) = true then
g215_j0 p22 p23 r69.2 r69.1.held r69.1.waiting
else
g215_j0 p22 p23 r69.2 p24 p25
else
if (y51.kind == 2) = true then
(g267 (DDevice.mk p24 p25)).bind fun r73 =>
g215_j0 p22 p23 0 r73.held r73.waiting
else
if (y51.kind == 3) = true then
(g268 (DDevice.mk p24 p25) y51.keep).bind fun r76 =>
g215_j0 p22 p23 0 r76.held r76.waiting
else
g215_j0 p22 p23 16 p24 p25
else
some (.inr (p22, p24, p25))
noncomputable def g215 (a0 : List DDevAct) : Option ((List Int) × DDevice × Int) :=
(g266 a0).bind fun r1 =>
if (!r1) = true then
some ([], (DDevice.mk ([] : List UInt8) ([] : List DSector)), 2)
else
if (decide ((a0.length : Int) > 200)) = true then
some ([], (DDevice.mk ([] : List UInt8) ([] : List DSector)), 6)
else
(iter (g215_l0 a0) ([], 0, ([] : List UInt8), ([] : List DSector))).bind fun r78 =>
(match r78 with
| (p47, p48, p49) =>
some (p47, (DDevice.mk p48 p49), 0))
noncomputable def g201_j1 (r12 : (List UInt8) × Int) (p41 : Int) (p73 : UInt8) : Option ((Int) ⊕ (Unit ⊕ Bool)) :=
(idx r12.1 p41).bind fun y74 =>
(r12.1[p41.toNat]?).bind fun y76 =>
if (((y76).toNat : Int) != ((p73).toNat : Int)) = true then
some (.inr (.inr false))
else
some (.inl (IntKind.i64.wrap (p41 + 1)))
noncomputable def g201_j0 (a1 : List UInt8) (r8 : Int) (r12 : (List UInt8) × Int) (p41 : Int) (p67 : UInt8) : Option ((Int) ⊕ (Unit ⊕ Bool)) :=
bindv ((bif (decide (p41 ≥ r8)) then (decide (p41 < (IntKind.i64.wrap (r8 + (a1.length : Int))))) else false)) fun v68 =>
if v68 = true then
(idx a1 (IntKind.i64.wrap (p41 - r8))).bind fun y81 =>
g201_j1 r12 p41 y81
else
g201_j1 r12 p41 p67
noncomputable def g201_l0 (a1 : List UInt8) (r6 : (List UInt8) × Int) (r8 : Int) (r12 : (List UInt8) × Int) (s : Int) : Option ((Int) ⊕ (Unit ⊕ Bool)) :=
match s with
| p41 =>
if (decide (p41 < (r12.1.length : Int))) = true then
if (decide (p41 < (r6.1.length : Int))) = true then
(idx r6.1 p41).bind fun y85 =>
(r6.1[p41.toNat]?).bind fun y87 =>
g201_j0 a1 r8 r12 p41 y87
else
g201_j0 a1 r8 r12 p41 (0 : UInt8)
else
some (.inr (.inl ()))
noncomputable def g201 (a0 : List UInt8) (a1 : List UInt8) : Option Bool :=
bindv ((bif (decide ((a0.length : Int) > 1048576)) then true else (decide ((a1.length : Int) > 200)))) fun v1 =>
if v1 = true then
some true
else
(g212 a0).bind fun r4 =>
(g213 r4).bind fun r6 =>
(g40 a1 0 200).bind fun r8 =>
(g214 r4 r8 a1).bind fun r10 =>
(g213 r10.1).bind fun r12 =>
(g215 ([(DDevAct.mk 1 r8 a1 ([] : List Bool)), (DDevAct.mk 2 0 ([] : List UInt8) ([] : List Bool))] : List DDevAct)).bind fun r14 =>
(g213 r14.2.1).bind fun r16 =>
(if ((bif (bif (bif (bif (r6.2 != 0) then true else (r10.2 != 0)) then true else (r12.2 != 0)) then true else (r14.2.2 != 0)) then true else (r16.2 != 0)) == false) = true then g216 r10.1 else some default).bind fun r18 =>
bindv ((bif (bif (bif (bif (bif (bif (bif (r6.2 != 0) then true else (r10.2 != 0)) then true else (r12.2 != 0)) then true else (r14.2.2 != 0)) then true else (r16.2 != 0)) then true else (!r18)) then true else ((r14.2.1.waiting.length : Int) != 0)) then true else (decide ((r12.1.length : Int) < (r6.1.length : Int))))) fun v20 =>
if v20 = true then
some false
else
(iter (g201_l0 a1 r6 r8 r12) 0).bind fun r89 =>
(match r89 with
| .inl () =>
(if ((((a1.length : Int) == 0) == false) && ((decide ((r16.1.length : Int) ≥ (IntKind.i64.wrap (r8 + (a1.length : Int))))) == true)) = true then slc r16.1 r8 (IntKind.i64.wrap (r8 + (a1.length : Int))) else some default).bind fun s91 =>
bindv ((bif ((a1.length : Int) == 0) then true else (bif (decide ((r16.1.length : Int) ≥ (IntKind.i64.wrap (r8 + (a1.length : Int))))) then (s91 == a1) else false))) fun v93 =>
some v93
| .inr q => some q)
noncomputable def g273 (a0 : DDevice) (a1 : List UInt8) : Option (DDevice × Int) :=
if (decide ((a1.length : Int) > 2000)) = true then
some ((DDevice.mk ([] : List UInt8) ([] : List DSector)), 4)
else
(g263 a0).bind fun r2 =>
(g275 r2).bind fun r4 =>
(g274 a1).bind fun r6 =>
(g327 r4.2 (r6.length : Int)).bind fun r8 =>
if (!r8) = true then
some ((DDevice.mk ([] : List UInt8) ([] : List DSector)), 9)
else
(g328 a0 r4.2 r6).bind fun r11 =>
(g267 r11).bind fun r13 =>
some (r13, 0)
noncomputable def g218 (a0 : DDevice) (a1 : List UInt8) : Option (DDevice × Int) :=
(g264 a1).bind fun r1 =>
if (!r1) = true then
some ((DDevice.mk ([] : List UInt8) ([] : List DSector)), 2)
else
(g216 a0).bind fun r4 =>
if (!r4) = true then
some ((DDevice.mk ([] : List UInt8) ([] : List DSector)), 1)
else
(g273 a0 a1).bind fun r7 =>
some (r7.1, r7.2)
noncomputable def g221 (a0 : List UInt8) : Option ((List (List UInt8)) × Int × Int) :=
(g264 a0).bind fun r1 =>
if (!r1) = true then
some ([], 0, 2)
else
(g275 a0).bind fun r4 =>
some (r4.1, r4.2, 0)
noncomputable def g202_l0 (r2 : (List (List UInt8))) (s : (List UInt8) × Int × (List UInt8) × (List DSector)) : Option (((List UInt8) × Int × (List UInt8) × (List DSector)) ⊕ (((List UInt8) × (List UInt8) × (List DSector)) ⊕ Bool)) :=
match s with
| (p21, p22, p23, p24) =>
if (decide (p22 < (r2.length : Int))) = true then
(idx r2 p22).bind fun y50 =>
(r2[p22.toNat]?).bind fun y52 =>
(g218 (DDevice.mk p23 p24) y52).bind fun r54 =>
(idx r2 p22).bind fun y57 =>
(r2[p22.toNat]?).bind fun y59 =>
(g219 y59).bind fun r61 =>
if (bif (r61.2 != 0) then true else (r54.2 == 9)) = true then
some (.inr (.inr (r61.2 == 0)))
else
if (r54.2 != 0) = true then
some (.inr (.inr false))
else
if (p21.length + r61.1.length) * 1 ≤ 140737488355328 then
some (.inl ((p21 ++ r61.1), (IntKind.i64.wrap (p22 + 1)), r54.1.held, r54.1.waiting))
else none
else
some (.inr (.inl (p21, p23, p24)))
noncomputable def g202 (a0 : List UInt8) : Option Bool :=
if (decide ((a0.length : Int) > 1048576)) = true then
some true
else
(g217 a0).bind fun r2 =>
(iter (g202_l0 r2) (([] : List UInt8), 0, ([] : List UInt8), ([] : List DSector))).bind fun r66 =>
(match r66 with
| .inl (p46, p47, p48) =>
(g220 (DDevice.mk p47 p48)).bind fun r68 =>
(g221 p46).bind fun r70 =>
(if ((bif (bif (r68.2 == 0) then (r70.2.2 == 0) else false) then (r70.2.1 == (p46.length : Int)) else false) == true) = true then g222 r68.1 r2 else some default).bind fun r72 =>
(if ((bif (bif (bif (r68.2 == 0) then (r70.2.2 == 0) else false) then (r70.2.1 == (p46.length : Int)) else false) then r72 else false) == true) = true then g222 r70.1 r2 else some default).bind fun r74 =>
bindv ((bif (bif (bif (bif (r68.2 == 0) then (r70.2.2 == 0) else false) then (r70.2.1 == (p46.length : Int)) else false) then r72 else false) then r74 else false)) fun v76 =>
some v76
| .inr q => some q)
end Go.Ev
