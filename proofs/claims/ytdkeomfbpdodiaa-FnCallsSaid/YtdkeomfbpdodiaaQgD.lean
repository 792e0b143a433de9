/- Functions with the answers of the program's, written by a program of ours. -/
import Derived.Test.YtdkeomfbpdodiaaQvM
set_option linter.all false
set_option maxHeartbeats 4000000
set_option linter.unusedVariables false
set_option maxRecDepth 100000
namespace Go.Ev
structure DLease where
  id : Int
  until_ : Int
  cap : Int
  queued : Bool
  deriving Inhabited, DecidableEq
def okDLease (x : DLease) : Prop := ok64 x.id ∧ ok64 x.until_ ∧ ok64 x.cap ∧ okAny x.queued
def eDLease (x : DLease) : List V := [.int .i64 x.id, .int .i64 x.until_, .int .i64 x.cap, .bool x.queued]
structure DTable where
  clock : Int
  next : Int
  list_ : List DLease
  deriving Inhabited, DecidableEq
def okDTable (x : DTable) : Prop := ok64 x.clock ∧ ok64 x.next ∧ (okL okDLease) x.list_
def eDTable (x : DTable) : List V := [.int .i64 x.clock, .int .i64 x.next, .lst 4 (x.list_.map eDLease)]
structure DIntent where
  lease : Int
  undo : Bool
  deriving Inhabited, DecidableEq
def okDIntent (x : DIntent) : Prop := ok64 x.lease ∧ okAny x.undo
def eDIntent (x : DIntent) : List V := [.int .i64 x.lease, .bool x.undo]
structure DVault where
  table : DTable
  intents : List DIntent
  accounts : List Int
  sealed : Bool
  deriving Inhabited, DecidableEq
def okDVault (x : DVault) : Prop := okDTable x.table ∧ (okL okDIntent) x.intents ∧ (okL ok64) x.accounts ∧ okAny x.sealed
def eDVault (x : DVault) : List V := [.int .i64 x.table.clock, .int .i64 x.table.next, .lst 4 (x.table.list_.map eDLease), .lst 2 (x.intents.map eDIntent), .lst 1 (x.accounts.map eI), .bool x.sealed]
structure DVaultAct where
  kind : Int
  id : Int
  ttl : Int
  most : Int
  clock : Int
  fates : List Int
  stop : Int
  deriving Inhabited, DecidableEq
def okDVaultAct (x : DVaultAct) : Prop := ok64 x.kind ∧ ok64 x.id ∧ ok64 x.ttl ∧ ok64 x.most ∧ ok64 x.clock ∧ (okL ok64) x.fates ∧ ok64 x.stop
def eDVaultAct (x : DVaultAct) : List V := [.int .i64 x.kind, .int .i64 x.id, .int .i64 x.ttl, .int .i64 x.most, .int .i64 x.clock, .lst 1 (x.fates.map eI), .int .i64 x.stop]
structure DVaultReply where
  code_ : Int
  id : Int
  deriving Inhabited, DecidableEq
def okDVaultReply (x : DVaultReply) : Prop := ok64 x.code_ ∧ ok64 x.id
def eDVaultReply (x : DVaultReply) : List V := [.int .i64 x.code_, .int .i64 x.id]
structure Dl00Src where
  code_ : List UInt8
  at_ : Int
  seed : Int
  deriving Inhabited, DecidableEq
def okDl00Src (x : Dl00Src) : Prop := (okL okAny) x.code_ ∧ ok64 x.at_ ∧ ok64 x.seed
def eDl00Src (x : Dl00Src) : List V := [.lst 1 (x.code_.map eU8), .int .i64 x.at_, .int .i64 x.seed]
noncomputable def g40 (a0 : List UInt8) (a1 : Int) (a2 : Int) : Option Int :=
if (decide (a2 ≤ 1)) = true then
some 0
else
if ((a0.length : Int) == 0) = true then
if a2 ≠ 0 then
some (((IntKind.i64.wrap (a1 * 7))).tmod a2)
else none
else
if (a0.length : Int) ≠ 0 then
(idx a0 ((a1).tmod (a0.length : Int))).bind fun y5 =>
(idx a0 (((IntKind.i64.wrap (a1 + 1))).tmod (a0.length : Int))).bind fun y7 =>
if a2 ≠ 0 then
bindv (((IntKind.i64.wrap ((IntKind.i64.wrap ((IntKind.i64.wrap ((IntKind.i64.wrap ((y5).toNat : Int)) * 31)) + (IntKind.i64.wrap ((y7).toNat : Int)))) + (IntKind.i64.wrap ((a1).tdiv (a0.length : Int)))))).tmod a2) fun v10 =>
some v10
else none
else none
noncomputable def g56 (a0 : Int) (a1 : Int) (a2 : Int) : Option Bool :=
some (bif (decide (a0 ≥ a1)) then (decide (a0 ≤ a2)) else false)
noncomputable def g85_l0 (a0 : List Int) (a1 : Int) (s : Int) : Option ((Int) ⊕ (Unit ⊕ Bool)) :=
match s with
| p13 =>
if (decide (p13 < (a0.length : Int))) = true then
(idx a0 p13).bind fun y28 =>
(g56 y28 1 (IntKind.i64.wrap (a1 - 1))).bind fun r30 =>
(if (((!r30) == false) && ((decide (p13 > 0)) == true)) = true then idx a0 (IntKind.i64.wrap (p13 - 1)) else some default).bind fun y32 =>
(if (((!r30) == false) && ((decide (p13 > 0)) == true)) = true then idx a0 p13 else some default).bind fun y34 =>
bindv ((bif (!r30) then true else (bif (decide (p13 > 0)) then (decide (y32 ≥ y34)) else false))) fun v36 =>
if v36 = true then
some (.inr (.inr false))
else
some (.inl (IntKind.i64.wrap (p13 + 1)))
else
some (.inr (.inl ()))
noncomputable def g85 (a0 : List Int) (a1 : Int) : Option Bool :=
(iter (g85_l0 a0 a1) 0).bind fun r39 =>
(match r39 with
| .inl () =>
some true
| .inr q => some q)
noncomputable def g86_l0 (a0 : List Int) (a1 : Int) (s : (List Int) × Int) : Option (((List Int) × Int) ⊕ ((List Int))) :=
match s with
| (p10, p11) =>
(if ((decide (p11 < (a0.length : Int))) == true) = true then idx a0 p11 else some default).bind fun y23 =>
bindv ((bif (decide (p11 < (a0.length : Int))) then (decide (y23 < a1)) else false)) fun v25 =>
if v25 = true then
(idx a0 p11).bind fun y28 =>
if (p10.length + ([y28] : List Int).length) * 8 ≤ 140737488355328 then
some (.inl ((p10 ++ ([y28] : List Int)), (IntKind.i64.wrap (p11 + 1))))
else none
else
some (.inr p10)
noncomputable def g86_j1 (a0 : List Int) (a3 : Int) (p35 : List Int) (p41 : Int) : Option ((List Int) × Int) :=
(slc a0 p41 (a0.length : Int)).bind fun s42 =>
if (p35.length + s42.length) * 8 ≤ 140737488355328 then
if (a3 == 2) = true then
some (p35 ++ s42, 15)
else
some (p35 ++ s42, 0)
else none
noncomputable def g86_j0 (a0 : List Int) (a1 : Int) (a3 : Int) (p22 : List Int) (p35 : List Int) : Option ((List Int) × Int) :=
(if ((decide ((p22.length : Int) < (a0.length : Int))) == true) = true then idx a0 (p22.length : Int) else some default).bind fun y36 =>
bindv ((bif (decide ((p22.length : Int) < (a0.length : Int))) then (y36 == a1) else false)) fun v38 =>
if v38 = true then
g86_j1 a0 a3 p35 (IntKind.i64.wrap ((p22.length : Int) + 1))
else
g86_j1 a0 a3 p35 (p22.length : Int)
noncomputable def g86 (a0 : List Int) (a1 : Int) (a2 : Bool) (a3 : Int) : Option ((List Int) × Int) :=
if (a3 == 1) = true then
some (a0, 13)
else
(iter (g86_l0 a0 a1) (([] : List Int), 0)).bind fun r31 =>
(match r31 with
| p22 =>
if a2 = true then
if (p22.length + ([a1] : List Int).length) * 8 ≤ 140737488355328 then
g86_j0 a0 a1 a3 p22 (p22 ++ ([a1] : List Int))
else none
else
g86_j0 a0 a1 a3 p22 p22)
noncomputable def g42 (a0 : List Int) (a1 : Int) (a2 : Bool) (a3 : Int) : Option ((List Int) × Int) :=
if (decide ((a0.length : Int) > 4096)) = true then
some (([] : List Int), 2)
else
(g85 a0 1000001).bind fun r2 =>
(if ((!r2) == false) = true then g56 a1 1 1000000 else some default).bind fun r4 =>
if (bif (!r2) then true else (!r4)) = true then
some (([] : List Int), 1)
else
(g56 a3 0 2).bind fun r7 =>
if (!r7) = true then
some (([] : List Int), 4)
else
(g86 a0 a1 a2 a3).bind fun r10 =>
if (([] : List Int).length + r10.1.length) * 8 ≤ 140737488355328 then
some (([] : List Int) ++ r10.1, r10.2)
else none
noncomputable def g63 (a0 : Int) (a1 : Int) (a2 : Int) : Option Bool :=
some (bif (decide (a1 ≤ a0)) then (decide (a0 ≤ a2)) else false)
noncomputable def g58 (a0 : Int) : Option Bool :=
(g63 a0 1 1000000).bind fun r1 =>
some r1
noncomputable def g59_l0 (a0 : List Int) (a1 : Int) (a2 : Int) (s : Int) : Option ((Int) ⊕ (Unit ⊕ Bool)) :=
match s with
| p11 =>
if (decide (p11 < (a0.length : Int))) = true then
(idx a0 p11).bind fun y24 =>
(g63 y24 a1 a2).bind fun r26 =>
(if (((!r26) == false) && ((decide (p11 > 0)) == true)) = true then idx a0 (IntKind.i64.wrap (p11 - 1)) else some default).bind fun y28 =>
bindv ((bif (!r26) then true else (bif (decide (p11 > 0)) then (decide (y28 ≥ y24)) else false))) fun v30 =>
if v30 = true then
some (.inr (.inr false))
else
some (.inl (IntKind.i64.wrap (p11 + 1)))
else
some (.inr (.inl ()))
noncomputable def g59 (a0 : List Int) (a1 : Int) (a2 : Int) : Option Bool :=
(iter (g59_l0 a0 a1 a2) 0).bind fun r33 =>
(match r33 with
| .inl () =>
some true
| .inr q => some q)
noncomputable def g87 (a0 : List Int) : Option Bool :=
some (decide ((a0.length : Int) ≤ 4096))
noncomputable def g88 (a0 : Int) : Option Bool :=
(g63 a0 0 2).bind fun r1 =>
some r1
def g120 (a0 : List Int) : Option (List Int) := if ([] : List Int).length + a0.length ≤ 17592186044416 then some a0 else none
noncomputable def g136 (a0 : Int) : Option Bool :=
some (a0 != a0)
noncomputable def g140 (a0 : Int) (a1 : Int) : Option Bool :=
(g136 a0).bind fun r1 =>
(if (r1 == true) = true then g136 a1 else some default).bind fun r3 =>
bindv ((bif (bif r1 then (!r3) else false) then true else (decide (a0 < a1)))) fun v5 =>
some v5
noncomputable def g141 (a0 : Int) : Option Bool :=
some (a0 != a0)
noncomputable def g121_l0 (a0 : List Int) (a1 : Int) (s : Int × Int) : Option ((Int × Int) ⊕ (Int)) :=
match s with
| (p9, p10) =>
if (decide (p9 < p10)) = true then
bindv (IntKind.i64.wrap (ishr .u64 (IntKind.u64.wrap (IntKind.i64.wrap (p9 + p10))) 1)) fun v23 =>
(idx a0 v23).bind fun y25 =>
(g140 y25 a1).bind fun r27 =>
if r27 = true then
some (.inl ((IntKind.i64.wrap (v23 + 1)), p10))
else
some (.inl (p9, v23))
else
some (.inr p9)
noncomputable def g121 (a0 : List Int) (a1 : Int) : Option (Int × Bool) :=
(iter (g121_l0 a0 a1) (0, (a0.length : Int))).bind fun r30 =>
(match r30 with
| p21 =>
(if ((decide (p21 < (a0.length : Int))) == true) = true then idx a0 p21 else some default).bind fun y32 =>
(if (((decide (p21 < (a0.length : Int))) == true) && ((y32 == a1) == false)) = true then idx a0 p21 else some default).bind fun y34 =>
(if (((decide (p21 < (a0.length : Int))) == true) && ((y32 == a1) == false)) = true then g141 y34 else some default).bind fun r36 =>
(if ((((decide (p21 < (a0.length : Int))) == true) && ((y32 == a1) == false)) && (r36 == true)) = true then g141 a1 else some default).bind fun r38 =>
bindv ((bif (decide (p21 < (a0.length : Int))) then (bif (y32 == a1) then true else (bif r36 then r38 else false)) else false)) fun v40 =>
some (p21, v40))
def g122 (a0 : List Int) (a1 : Int) (a2 : List Int) : Option ((List Int) × (List Int)) := if (0 ≤ a1 ∧ a1 ≤ (a0.length : Int)) ∧ 0 < a2.length ∧ a0.length + a2.length ≤ 17592186044416 then some (a0.take a1.toNat ++ a2 ++ a0.drop a1.toNat, a2) else none
def g123 (a0 : List Int) (a1 : Int) (a2 : Int) : Option (List Int) := if (0 ≤ a1 ∧ a1 ≤ a2 ∧ a2 ≤ (a0.length : Int)) ∧ a0.length ≤ 17592186044416 then some (a0.take a1.toNat ++ a0.drop a2.toNat) else none
noncomputable def g89_j0 (a3 : Int) (p13 : List Int) : Option ((List Int) × Int) :=
if (a3 == 2) = true then
some (p13, 15)
else
some (p13, 0)
noncomputable def g89 (a0 : List Int) (a1 : Int) (a2 : Bool) (a3 : Int) : Option ((List Int) × Int) :=
(g120 a0).bind fun r1 =>
if (a3 == 1) = true then
some (r1, 13)
else
(g121 r1 a1).bind fun r4 =>
if (bif a2 then (!r4.2) else false) = true then
(g122 r1 r4.1 ([a1] : List Int)).bind fun r17 =>
if r17.2.length = ([a1] : List Int).length then
g89_j0 a3 r17.1
else none
else
if (bif (!a2) then r4.2 else false) = true then
(g123 r1 r4.1 (IntKind.i64.wrap (r4.1 + 1))).bind fun r21 =>
g89_j0 a3 r21
else
g89_j0 a3 r1
noncomputable def g44 (a0 : List Int) (a1 : Int) (a2 : Bool) (a3 : Int) : Option ((List Int) × Int) :=
(g87 a0).bind fun r1 =>
if (!r1) = true then
some ([], 2)
else
(g59 a0 1 1000000).bind fun r4 =>
(if ((!r4) == false) = true then g58 a1 else some default).bind fun r6 =>
if (bif (!r4) then true else (!r6)) = true then
some ([], 1)
else
(g88 a3).bind fun r9 =>
if (!r9) = true then
some ([], 4)
else
(g89 a0 a1 a2 a3).bind fun r12 =>
some (r12.1, r12.2)
noncomputable def g100_l0 (a0 : DVaultAct) (s : Int) : Option ((Int) ⊕ (Unit ⊕ Bool)) :=
match s with
| p10 =>
if (decide (p10 < (a0.fates.length : Int))) = true then
(idx a0.fates p10).bind fun y19 =>
(g56 y19 0 2).bind fun r21 =>
if (!r21) = true then
some (.inr (.inr false))
else
some (.inl (IntKind.i64.wrap (p10 + 1)))
else
some (.inr (.inl ()))
noncomputable def g100 (a0 : DVaultAct) : Option Bool :=
(if ((decide ((a0.fates.length : Int) > 4096)) == false) = true then g56 a0.stop 0 2 else some default).bind fun r1 =>
if (bif (decide ((a0.fates.length : Int) > 4096)) then true else (!r1)) = true then
some false
else
(iter (g100_l0 a0) 0).bind fun r24 =>
(match r24 with
| .inl () =>
some true
| .inr q => some q)
noncomputable def g92_l0 (a0 : DTable) (a1 : Int) (s : Int) : Option ((Int) ⊕ (Unit ⊕ Int)) :=
match s with
| p5 =>
if (decide (p5 < (a0.list_.length : Int))) = true then
(idx a0.list_ p5).bind fun y12 =>
if (y12.id == a1) = true then
some (.inr (.inr p5))
else
some (.inl (IntKind.i64.wrap (p5 + 1)))
else
some (.inr (.inl ()))
noncomputable def g92 (a0 : DTable) (a1 : Int) : Option Int :=
(iter (g92_l0 a0 a1) 0).bind fun r15 =>
(match r15 with
| .inl () =>
some (-1)
| .inr q => some q)
noncomputable def g111 (a0 : DTable) : Option DTable :=
if (([] : List DLease).length + a0.list_.length) * 32 ≤ 140737488355328 then
some (DTable.mk a0.clock a0.next (([] : List DLease) ++ a0.list_))
else none
noncomputable def g74 (a0 : DTable) (a1 : Int) : Option (DTable × Int) :=
(g92 a0 a1).bind fun r1 =>
if (decide (r1 < 0)) = true then
some (a0, 5)
else
(g111 a0).bind fun r4 =>
(idx r4.list_ r1).bind fun y6 =>
(r4.list_[r1.toNat]?).bind fun y8 =>
some ((DTable.mk r4.clock r4.next (r4.list_.set r1.toNat (DLease.mk y8.id y8.until_ y8.cap true))), 0)
noncomputable def g53 (a0 : Int) (a1 : Int) : Option Int :=
if (decide (a0 > (IntKind.i64.wrap (9223372036854775807 - a1)))) = true then
some 9223372036854775807
else
some (IntKind.i64.wrap (a0 + a1))
noncomputable def g79 (a0 : DTable) (a1 : Int) (a2 : Int) : Option (DTable × Int) :=
(g92 a0 a1).bind fun r1 =>
if (decide (a2 < 1)) = true then
some (a0, 4)
else
if (decide (r1 < 0)) = true then
some (a0, 5)
else
(idx a0.list_ r1).bind fun y5 =>
if y5.queued = true then
some (a0, 13)
else
(g111 a0).bind fun r8 =>
(idx r8.list_ r1).bind fun y10 =>
(r8.list_[r1.toNat]?).bind fun y12 =>
(g53 a0.clock a2).bind fun r14 =>
some ((DTable.mk r8.clock r8.next (r8.list_.set r1.toNat (DLease.mk y12.id (if r14 < y12.cap then r14 else y12.cap) y12.cap y12.queued))), 0)
noncomputable def g81_j0 (p103 : Int) (p132 : Int) : Option ((Int × Int) ⊕ (Int)) :=
some (.inl (p132, (IntKind.i64.wrap (p103 + 1))))
noncomputable def g81_l1 (a0 : DTable) (a1 : Int) (p45 : List DLease) (s : Int × Int) : Option ((Int × Int) ⊕ (Int)) :=
match s with
| (p102, p103) =>
if (decide (p103 < (p45.length : Int))) = true then
(idx p45 p103).bind fun y134 =>
(p45[p103.toNat]?).bind fun y136 =>
(if (((bif (!y136.queued) then (decide (y136.until_ ≤ (if a1 > a0.clock then a1 else a0.clock))) else false) == true) && ((decide (p102 < 0)) == false)) = true then idx p45 p102 else some default).bind fun y138 =>
(if (((bif (!y136.queued) then (decide (y136.until_ ≤ (if a1 > a0.clock then a1 else a0.clock))) else false) == true) && ((decide (p102 < 0)) == false)) = true then p45[p102.toNat]? else some default).bind fun y140 =>
bindv ((bif (bif (!y136.queued) then (decide (y136.until_ ≤ (if a1 > a0.clock then a1 else a0.clock))) else false) then (bif (decide (p102 < 0)) then true else (decide (y136.until_ < y140.until_))) else false)) fun v142 =>
if v142 = true then
g81_j0 p103 p103
else
g81_j0 p103 p102
else
some (.inr p102)
noncomputable def g81_l0 (a0 : DTable) (a1 : Int) (r1 : DTable) (s : (List Int) × (List DLease)) : Option (((List Int) × (List DLease)) ⊕ (DTable × (List Int))) :=
match s with
| (p44, p45) =>
(iter (g81_l1 a0 a1 p45) ((-1), 0)).bind fun r145 =>
(match r145 with
| p119 =>
if (decide (p119 < 0)) = true then
some (.inr ((DTable.mk (if a1 > a0.clock then a1 else a0.clock) r1.next p45), p44))
else
(idx p45 p119).bind fun y148 =>
(p45[p119.toNat]?).bind fun y150 =>
(idx (p45.set p119.toNat (DLease.mk y150.id y150.until_ y150.cap true)) p119).bind fun y152 =>
((p45.set p119.toNat (DLease.mk y150.id y150.until_ y150.cap true))[p119.toNat]?).bind fun y154 =>
if (p44.length + ([y154.id] : List Int).length) * 8 ≤ 140737488355328 then
some (.inl ((p44 ++ ([y154.id] : List Int)), (p45.set p119.toNat (DLease.mk y150.id y150.until_ y150.cap true))))
else none)
noncomputable def g81 (a0 : DTable) (a1 : Int) : Option (DTable × (List Int)) :=
(g111 a0).bind fun r1 =>
(iter (g81_l0 a0 a1 r1) (([] : List Int), r1.list_)).bind fun r157 =>
(match r157 with
| q => some q)
noncomputable def g102 (a0 : DVault) : Option DVault :=
(g111 a0.table).bind fun r1 =>
if (([] : List DIntent).length + a0.intents.length) * 16 ≤ 140737488355328 then
if (([] : List Int).length + a0.accounts.length) * 8 ≤ 140737488355328 then
some (DVault.mk r1 (([] : List DIntent) ++ a0.intents) (([] : List Int) ++ a0.accounts) a0.sealed)
else none
else none
noncomputable def g70 (a0 : DTable) (a1 : Int) (a2 : Int) : Option (DTable × Int × Int) :=
if (bif (decide (a1 < 1)) then true else (decide (a2 < a1))) = true then
some (a0, 0, 4)
else
if (a0.clock == 9223372036854775807) = true then
some (a0, 0, 11)
else
bindv ((bif ((a0.list_.length : Int) == 40) then true else (a0.next == 1000000))) fun v3 =>
if v3 = true then
some (a0, 0, 9)
else
(g111 a0).bind fun r6 =>
(g53 a0.clock a1).bind fun r8 =>
(g53 a0.clock a2).bind fun r10 =>
if (r6.list_.length + ([(DLease.mk a0.next r8 r10 false)] : List DLease).length) * 32 ≤ 140737488355328 then
some ((DTable.mk r6.clock (IntKind.i64.wrap (r6.next + 1)) (r6.list_ ++ ([(DLease.mk a0.next r8 r10 false)] : List DLease))), a0.next, 0)
else none
noncomputable def g133_l0  (s : Int × (List DIntent)) : Option ((Int × (List DIntent)) ⊕ ((List DIntent))) :=
match s with
| (p8, p9) =>
if (decide (p8 < (p9.length : Int))) = true then
(idx p9 p8).bind fun y19 =>
(p9[p8.toNat]?).bind fun y21 =>
some (.inl ((IntKind.i64.wrap (p8 + 1)), (p9.set p8.toNat (DIntent.mk y21.lease true))))
else
some (.inr p9)
noncomputable def g133 (a0 : DVault) : Option DVault :=
(g102 a0).bind fun r1 =>
(iter (g133_l0) (0, r1.intents)).bind fun r23 =>
(match r23 with
| p17 =>
some (DVault.mk r1.table p17 r1.accounts true))
noncomputable def g145 (a0 : DVaultAct) (a1 : Int) : Option Int :=
if (decide (a1 < (a0.fates.length : Int))) = true then
(idx a0.fates a1).bind fun y2 =>
some y2
else
some 0
noncomputable def g132_j0 (a0 : DVault) (a1 : DVaultAct) (r1 : DTable × Int × Int) (p4 : Int) : Option (DVault × DVaultReply) :=
if (p4 != 0) = true then
some (a0, (DVaultReply.mk p4 0))
else
(g102 a0).bind fun r6 =>
if (r6.intents.length + ([(DIntent.mk r1.2.1 false)] : List DIntent).length) * 16 ≤ 140737488355328 then
if (a1.stop == 1) = true then
(g133 (DVault.mk (DTable.mk r6.table.clock r1.1.next r6.table.list_) (r6.intents ++ ([(DIntent.mk r1.2.1 false)] : List DIntent)) r6.accounts r6.sealed)).bind fun r10 =>
some (r10, (DVaultReply.mk 15 0))
else
(g145 a1 0).bind fun r12 =>
(g86 r6.accounts r1.2.1 true r12).bind fun r14 =>
if (a1.stop == 2) = true then
(g133 (DVault.mk (DTable.mk r6.table.clock r1.1.next r6.table.list_) (r6.intents ++ ([(DIntent.mk r1.2.1 false)] : List DIntent)) r14.1 r6.sealed)).bind fun r17 =>
some (r17, (DVaultReply.mk 15 0))
else
if (r14.2 != 0) = true then
(idx (r6.intents ++ ([(DIntent.mk r1.2.1 false)] : List DIntent)) (IntKind.i64.wrap (((r6.intents ++ ([(DIntent.mk r1.2.1 false)] : List DIntent)).length : Int) - 1))).bind fun y20 =>
((r6.intents ++ ([(DIntent.mk r1.2.1 false)] : List DIntent))[(IntKind.i64.wrap (((r6.intents ++ ([(DIntent.mk r1.2.1 false)] : List DIntent)).length : Int) - 1)).toNat]?).bind fun y22 =>
some ((DVault.mk (DTable.mk r6.table.clock r1.1.next r6.table.list_) ((r6.intents ++ ([(DIntent.mk r1.2.1 false)] : List DIntent)).set ((IntKind.i64.wrap (((r6.intents ++ ([(DIntent.mk r1.2.1 false)] : List DIntent)).length : Int) - 1)).toNat) (DIntent.mk y22.lease true)) r14.1 r6.sealed), (DVaultReply.mk r14.2 0))
else
(slc (r6.intents ++ ([(DIntent.mk r1.2.1 false)] : List DIntent)) 0 (IntKind.i64.wrap (((r6.intents ++ ([(DIntent.mk r1.2.1 false)] : List DIntent)).length : Int) - 1))).bind fun s24 =>
some ((DVault.mk r1.1 s24 r14.1 r6.sealed), (DVaultReply.mk 0 r1.2.1))
else none
noncomputable def g132 (a0 : DVault) (a1 : DVaultAct) : Option (DVault × DVaultReply) :=
(g70 a0.table a1.ttl a1.most).bind fun r1 =>
if (bif (r1.2.2 == 0) then ((a0.intents.length : Int) == 40) else false) = true then
g132_j0 a0 a1 r1 9
else
g132_j0 a0 a1 r1 r1.2.2
noncomputable def g76 (a0 : DTable) (a1 : Int) : Option (DTable × Int) :=
(g92 a0 a1).bind fun r1 =>
if (decide (r1 < 0)) = true then
some (a0, 5)
else
(idx a0.list_ r1).bind fun y4 =>
if (!y4.queued) = true then
some (a0, 13)
else
(slc a0.list_ 0 r1).bind fun s7 =>
(slc a0.list_ (IntKind.i64.wrap (r1 + 1)) (a0.list_.length : Int)).bind fun s9 =>
if (([] : List DLease).length + s7.length) * 32 ≤ 140737488355328 then
if ((([] : List DLease) ++ s7).length + s9.length) * 32 ≤ 140737488355328 then
some ((DTable.mk a0.clock a0.next ((([] : List DLease) ++ s7) ++ s9)), 0)
else none
else none
noncomputable def g146_j0 (p10 : Int) (p29 : List DIntent) : Option (((List DIntent) × Int) ⊕ ((List DIntent))) :=
some (.inl (p29, (IntKind.i64.wrap (p10 + 1))))
noncomputable def g146_l0 (a0 : List DIntent) (a1 : Int) (s : (List DIntent) × Int) : Option (((List DIntent) × Int) ⊕ ((List DIntent))) :=
match s with
| (p9, p10) =>
if (decide (p10 < (a0.length : Int))) = true then
(idx a0 p10).bind fun y31 =>
if (y31.lease != a1) = true then
(idx a0 p10).bind fun y34 =>
if (p9.length + ([y34] : List DIntent).length) * 16 ≤ 140737488355328 then
g146_j0 p10 (p9 ++ ([y34] : List DIntent))
else none
else
g146_j0 p10 p9
else
some (.inr p9)
noncomputable def g146 (a0 : List DIntent) (a1 : Int) : Option (List DIntent) :=
(iter (g146_l0 a0 a1) (([] : List DIntent), 0)).bind fun r37 =>
(match r37 with
| p21 =>
some p21)
noncomputable def g134_j0 (p28 : Int) (p87 : Int) (p88 : Int) (p89 : Int) (p90 : List DLease) (p91 : List Int) : Option ((Int × Int × Int × Int × (List DLease) × (List Int)) ⊕ ((Int × Int × Int × (List DLease) × (List Int)) ⊕ DVault)) :=
some (.inl (p87, (IntKind.i64.wrap (p28 + 1)), p88, p89, p90, p91))
noncomputable def g134_j1 (a1 : DVaultAct) (r1 : DVault) (p27 : Int) (p28 : Int) (r100 : (List Int) × Int) (p105 : Int) (p106 : Int) (p107 : List DLease) : Option ((Int × Int × Int × Int × (List DLease) × (List Int)) ⊕ ((Int × Int × Int × (List DLease) × (List Int)) ⊕ DVault)) :=
if (a1.stop == 2) = true then
(g133 (DVault.mk (DTable.mk p105 p106 p107) r1.intents r100.1 r1.sealed)).bind fun r109 =>
some (.inr (.inr r109))
else
g134_j0 p28 (IntKind.i64.wrap (p27 + 1)) p105 p106 p107 r100.1
noncomputable def g134_l0 (a0 : DVault) (a1 : DVaultAct) (r1 : DVault) (s : Int × Int × Int × Int × (List DLease) × (List Int)) : Option ((Int × Int × Int × Int × (List DLease) × (List Int)) ⊕ ((Int × Int × Int × (List DLease) × (List Int)) ⊕ DVault)) :=
match s with
| (p27, p28, p29, p30, p31, p32) =>
if (decide (p28 < (a0.table.list_.length : Int))) = true then
(idx a0.table.list_ p28).bind fun y93 =>
(idx a0.table.list_ p28).bind fun y95 =>
if (!y95.queued) = true then
g134_j0 p28 p27 p29 p30 p31 p32
else
(g145 a1 p27).bind fun r98 =>
(g86 p32 y93.id false r98).bind fun r100 =>
if (r100.2 == 0) = true then
(g76 (DTable.mk p29 p30 p31) y93.id).bind fun r113 =>
g134_j1 a1 r1 p27 p28 r100 r113.1.clock r113.1.next r113.1.list_
else
g134_j1 a1 r1 p27 p28 r100 p29 p30 p31
else
some (.inr (.inl (p27, p29, p30, p31, p32)))
noncomputable def g134_j2 (p140 : Int) (p190 : Int) (p191 : List DIntent) (p192 : List Int) : Option ((Int × Int × (List DIntent) × (List Int)) ⊕ (((List DIntent) × (List Int)) ⊕ DVault)) :=
some (.inl (p190, (IntKind.i64.wrap (p140 + 1)), p191, p192))
noncomputable def g134_j3 (a1 : DVaultAct) (r1 : DVault) (p64 : Int) (p65 : Int) (p66 : List DLease) (p139 : Int) (p140 : Int) (r201 : (List Int) × Int) (p208 : List DIntent) : Option ((Int × Int × (List DIntent) × (List Int)) ⊕ (((List DIntent) × (List Int)) ⊕ DVault)) :=
if (a1.stop == 2) = true then
(g133 (DVault.mk (DTable.mk p64 p65 p66) p208 r201.1 r1.sealed)).bind fun r210 =>
some (.inr (.inr r210))
else
g134_j2 p140 (IntKind.i64.wrap (p139 + 1)) p208 r201.1
noncomputable def g134_l1 (a0 : DVault) (a1 : DVaultAct) (r1 : DVault) (p64 : Int) (p65 : Int) (p66 : List DLease) (s : Int × Int × (List DIntent) × (List Int)) : Option ((Int × Int × (List DIntent) × (List Int)) ⊕ (((List DIntent) × (List Int)) ⊕ DVault)) :=
match s with
| (p139, p140, p141, p142) =>
if (decide (p140 < (a0.intents.length : Int))) = true then
(idx a0.intents p140).bind fun y194 =>
if (!y194.undo) = true then
g134_j2 p140 p139 p141 p142
else
(idx a0.intents p140).bind fun y197 =>
(g145 a1 p139).bind fun r199 =>
(g86 p142 y197.lease false r199).bind fun r201 =>
if (r201.2 == 0) = true then
(idx a0.intents p140).bind fun y214 =>
(g146 p141 y214.lease).bind fun r216 =>
g134_j3 a1 r1 p64 p65 p66 p139 p140 r201 r216
else
g134_j3 a1 r1 p64 p65 p66 p139 p140 r201 p141
else
some (.inr (.inl (p141, p142)))
noncomputable def g134 (a0 : DVault) (a1 : DVaultAct) : Option DVault :=
(g102 a0).bind fun r1 =>
(iter (g134_l0 a0 a1 r1) (0, 0, r1.table.clock, r1.table.next, r1.table.list_, r1.accounts)).bind fun r115 =>
(match r115 with
| .inl (p63, p64, p65, p66, p67) =>
(iter (g134_l1 a0 a1 r1 p64 p65 p66) (p63, 0, r1.intents, p67)).bind fun r218 =>
(match r218 with
| .inl (p169, p170) =>
some (DVault.mk (DTable.mk p64 p65 p66) p169 p170 r1.sealed)
| .inr q => some q)
| .inr q => some q)
noncomputable def g101_j0 (a0 : DVault) (p27 : Int) (p28 : Int) (p29 : Int) (p30 : List DLease) (p31 : List DIntent) (p32 : List Int) (p33 : Bool) : Option (DVault × DVaultReply) :=
if (p27 != 0) = true then
some (a0, (DVaultReply.mk p27 0))
else
some ((DVault.mk (DTable.mk p28 p29 p30) p31 p32 p33), (DVaultReply.mk 0 0))
noncomputable def g101 (a0 : DVault) (a1 : DVaultAct) : Option (DVault × DVaultReply) :=
(g56 a1.kind 1 6).bind fun r1 =>
if (!r1) = true then
some (a0, (DVaultReply.mk 16 0))
else
if (bif a0.sealed then (a1.kind != 6) else false) = true then
some (a0, (DVaultReply.mk 14 0))
else
(g102 a0).bind fun r5 =>
if (a1.kind == 1) = true then
(g132 a0 a1).bind fun r37 =>
some (r37.1, r37.2)
else
if (a1.kind == 2) = true then
(g79 a0.table a1.id a1.ttl).bind fun r40 =>
g101_j0 a0 r40.2 r40.1.clock r40.1.next r40.1.list_ r5.intents r5.accounts r5.sealed
else
if (a1.kind == 3) = true then
(g74 a0.table a1.id).bind fun r43 =>
g101_j0 a0 r43.2 r43.1.clock r43.1.next r43.1.list_ r5.intents r5.accounts r5.sealed
else
if (a1.kind == 4) = true then
(g81 a0.table a1.clock).bind fun r46 =>
if (a1.stop == 1) = true then
(g133 (DVault.mk r46.1 r5.intents r5.accounts r5.sealed)).bind fun r49 =>
some (r49, (DVaultReply.mk 15 0))
else
(g134 (DVault.mk r46.1 r5.intents r5.accounts r5.sealed) a1).bind fun r51 =>
if (bif r51.sealed then (!r5.sealed) else false) = true then
some (r51, (DVaultReply.mk 15 0))
else
g101_j0 a0 0 r51.table.clock r51.table.next r51.table.list_ r51.intents r51.accounts r51.sealed
else
if (a1.kind == 5) = true then
g101_j0 a0 0 r5.table.clock r5.table.next r5.table.list_ r5.intents r5.accounts true
else
if (a1.kind == 6) = true then
g101_j0 a0 0 r5.table.clock r5.table.next r5.table.list_ r5.intents r5.accounts false
else
g101_j0 a0 0 r5.table.clock r5.table.next r5.table.list_ r5.intents r5.accounts r5.sealed
noncomputable def g50_l0 (a0 : List DVaultAct) (s : (List DVaultReply) × Int × Int × Int × (List DLease) × (List DIntent) × (List Int) × Bool) : Option (((List DVaultReply) × Int × Int × Int × (List DLease) × (List DIntent) × (List Int) × Bool) ⊕ (((List DVaultReply) × Int × Int × (List DLease) × (List DIntent) × (List Int) × Bool) ⊕ (DVault × (List DVaultReply) × Int))) :=
match s with
| (p15, p16, p17, p18, p19, p20, p21, p22) =>
if (decide (p16 < (a0.length : Int))) = true then
(idx a0 p16).bind fun y51 =>
(g100 y51).bind fun r53 =>
if (!r53) = true then
some (.inr (.inr ((DVault.mk (DTable.mk 0 0 ([] : List DLease)) ([] : List DIntent) ([] : List Int) false), ([] : List DVaultReply), 1)))
else
(idx a0 p16).bind fun y56 =>
(g101 (DVault.mk (DTable.mk p17 p18 p19) p20 p21 p22) y56).bind fun r58 =>
if (p15.length + ([r58.2] : List DVaultReply).length) * 16 ≤ 140737488355328 then
some (.inl ((p15 ++ ([r58.2] : List DVaultReply)), (IntKind.i64.wrap (p16 + 1)), r58.1.table.clock, r58.1.table.next, r58.1.table.list_, r58.1.intents, r58.1.accounts, r58.1.sealed))
else none
else
some (.inr (.inl (p15, p17, p18, p19, p20, p21, p22)))
noncomputable def g50 (a0 : List DVaultAct) : Option (DVault × (List DVaultReply) × Int) :=
if (decide ((a0.length : Int) > 4096)) = true then
some ((DVault.mk (DTable.mk 0 0 ([] : List DLease)) ([] : List DIntent) ([] : List Int) false), ([] : List DVaultReply), 2)
else
if (decide ((a0.length : Int) > 120)) = true then
some ((DVault.mk (DTable.mk 0 0 ([] : List DLease)) ([] : List DIntent) ([] : List Int) false), ([] : List DVaultReply), 6)
else
(iter (g50_l0 a0) (([] : List DVaultReply), 0, 0, 1, ([] : List DLease), ([] : List DIntent), ([] : List Int), false)).bind fun r62 =>
(match r62 with
| .inl (p43, p44, p45, p46, p47, p48, p49) =>
(g102 (DVault.mk (DTable.mk p44 p45 p46) p47 p48 p49)).bind fun r64 =>
some (r64, p43, 0)
| .inr q => some q)
noncomputable def g83 (a0 : List UInt8) : Option Dl00Src :=
some (Dl00Src.mk a0 0 (((a0.length : Int)).tmod 1000))
noncomputable def g139 (a0 : Dl00Src) : Option (Int × Dl00Src) :=
if (decide ((IntKind.i64.wrap (a0.at_ + 1)) ≤ (a0.code_.length : Int))) = true then
(idx a0.code_ (IntKind.i64.wrap ((IntKind.i64.wrap (a0.at_ + 1)) - 1))).bind fun y2 =>
bindv (((IntKind.i64.wrap ((IntKind.i64.wrap ((IntKind.i64.wrap (a0.seed * 31)) + (IntKind.i64.wrap ((y2).toNat : Int)))) + 7))).tmod 2147483648) fun v4 =>
(idx a0.code_ (IntKind.i64.wrap ((IntKind.i64.wrap (a0.at_ + 1)) - 1))).bind fun y6 =>
some (IntKind.i64.wrap ((y6).toNat : Int), (Dl00Src.mk a0.code_ (IntKind.i64.wrap (a0.at_ + 1)) v4))
else
if (decide ((IntKind.i64.wrap (a0.at_ + 1)) > 3000)) = true then
some (0, (Dl00Src.mk a0.code_ (IntKind.i64.wrap (a0.at_ + 1)) a0.seed))
else
bindv (((IntKind.i64.wrap ((IntKind.i64.wrap (a0.seed * 1103515245)) + 12345))).tmod 2147483648) fun v9 =>
some (((IntKind.i64.wrap ((v9).tdiv 65536))).tmod 256, (Dl00Src.mk a0.code_ (IntKind.i64.wrap (a0.at_ + 1)) v9))
noncomputable def g117 (a0 : Dl00Src) (a1 : Int) : Option (Int × Dl00Src) :=
if (decide (a1 ≤ 1)) = true then
some (0, a0)
else
if (decide (a1 ≤ 256)) = true then
(g139 a0).bind fun r3 =>
if a1 ≠ 0 then
some ((r3.1).tmod a1, r3.2)
else none
else
(g139 a0).bind fun r6 =>
(g139 r6.2).bind fun r8 =>
(g139 r8.2).bind fun r10 =>
if a1 ≠ 0 then
bindv (((IntKind.i64.wrap ((IntKind.i64.wrap ((IntKind.i64.wrap (r6.1 * 65536)) + (IntKind.i64.wrap (r8.1 * 256)))) + r10.1))).tmod a1) fun v13 =>
some (v13, r10.2)
else none
noncomputable def g118 (a0 : Dl00Src) (a1 : Int) : Option Int :=
bindv (if a1 < (IntKind.i64.wrap (1 + (IntKind.i64.wrap (((a0.code_.length : Int)).tdiv 12)))) then a1 else (IntKind.i64.wrap (1 + (IntKind.i64.wrap (((a0.code_.length : Int)).tdiv 12))))) fun v1 =>
some v1
noncomputable def g119 (a0 : Dl00Src) (a1 : Int) : Option (Bool × Dl00Src) :=
(g117 a0 a1).bind fun r1 =>
some ((r1.1 == (IntKind.i64.wrap (a1 - 1))), r1.2)
noncomputable def g147_l0  (s : (List Int) × Int × (List UInt8) × Int × Int) : Option (((List Int) × Int × (List UInt8) × Int × Int) ⊕ ((List Int) × (List UInt8) × Int × Int)) :=
match s with
| (p7, p8, p9, p10, p11) =>
if (decide (p8 > 0)) = true then
(g117 (Dl00Src.mk p9 p10 p11) 5).bind fun r26 =>
if (p7.length + ([(r26.1).tmod 3] : List Int).length) * 8 ≤ 140737488355328 then
some (.inl ((p7 ++ ([(r26.1).tmod 3] : List Int)), (IntKind.i64.wrap (p8 - 1)), r26.2.code_, r26.2.at_, r26.2.seed))
else none
else
some (.inr (p7, p9, p10, p11))
noncomputable def g147 (a0 : Dl00Src) : Option ((List Int) × Dl00Src) :=
(g117 a0 4).bind fun r1 =>
(iter (g147_l0) (([] : List Int), r1.1, r1.2.code_, r1.2.at_, r1.2.seed)).bind fun r29 =>
(match r29 with
| (p21, p22, p23, p24) =>
some (p21, (Dl00Src.mk p22 p23 p24)))
noncomputable def g135_j1 (p32 : Int) (p33 : Int) (p34 : Int) (p35 : Int) (p36 : Int) (p37 : List Int) (p46 : Int) (p47 : List UInt8) (p48 : Int) (p49 : Int) : Option (DVaultAct × Dl00Src) :=
some ((DVaultAct.mk p32 p33 p34 p35 p36 p37 p46), (Dl00Src.mk p47 p48 p49))
noncomputable def g135_j0 (p32 : Int) (p33 : Int) (p34 : Int) (p35 : Int) (p36 : Int) (p37 : List Int) (p38 : List UInt8) (p39 : Int) (p40 : Int) : Option (DVaultAct × Dl00Src) :=
(g119 (Dl00Src.mk p38 p39 p40) 7).bind fun r41 =>
if r41.1 = true then
(g117 r41.2 2).bind fun r52 =>
g135_j1 p32 p33 p34 p35 p36 p37 (IntKind.i64.wrap (1 + r52.1)) r52.2.code_ r52.2.at_ r52.2.seed
else
g135_j1 p32 p33 p34 p35 p36 p37 0 r41.2.code_ r41.2.at_ r41.2.seed
noncomputable def g135_j2 (r1 : Int × Dl00Src) (r3 : (List Int) × Dl00Src) (r5 : Int × Dl00Src) (r7 : Int × Dl00Src) (p65 : Bool) : Option (DVaultAct × Dl00Src) :=
if p65 = true then
(g117 r7.2 60).bind fun r67 =>
(g147 r67.2).bind fun r69 =>
g135_j0 4 0 0 0 r67.1 r69.1 r69.2.code_ r69.2.at_ r69.2.seed
else
if (r7.1 == 5) = true then
(g117 r7.2 4).bind fun r72 =>
(idx ([5, 6, 6, 6] : List Int) r72.1).bind fun y74 =>
(([5, 6, 6, 6] : List Int)[r72.1.toNat]?).bind fun y76 =>
g135_j0 y76 0 0 0 0 ([] : List Int) r72.2.code_ r72.2.at_ r72.2.seed
else
g135_j0 1 0 (IntKind.i64.wrap (1 + r1.1)) (IntKind.i64.wrap ((IntKind.i64.wrap (1 + r1.1)) + r5.1)) 0 r3.1 r7.2.code_ r7.2.at_ r7.2.seed
noncomputable def g135 (a0 : Dl00Src) : Option (DVaultAct × Dl00Src) :=
(g117 a0 9).bind fun r1 =>
(g147 r1.2).bind fun r3 =>
(g117 r3.2 9).bind fun r5 =>
(g117 r5.2 10).bind fun r7 =>
if (r7.1 == 0) = true then
(g117 r7.2 9).bind fun r56 =>
(g117 r56.2 12).bind fun r58 =>
g135_j0 2 (IntKind.i64.wrap (1 + r56.1)) (IntKind.i64.wrap (1 + r58.1)) 0 0 ([] : List Int) r58.2.code_ r58.2.at_ r58.2.seed
else
if (r7.1 == 1) = true then
(g117 r7.2 9).bind fun r61 =>
g135_j0 3 (IntKind.i64.wrap (1 + r61.1)) 0 0 0 ([] : List Int) r61.2.code_ r61.2.at_ r61.2.seed
else
if (r7.1 == 2) = true then
g135_j2 r1 r3 r5 r7 (r7.1 == 2)
else
if (r7.1 == 3) = true then
g135_j2 r1 r3 r5 r7 (r7.1 == 3)
else
g135_j2 r1 r3 r5 r7 (r7.1 == 4)
noncomputable def g103_j0 (p16 : Int) (p45 : List DVaultAct) (p46 : List UInt8) (p47 : Int) (p48 : Int) : Option (((List DVaultAct) × Int × (List UInt8) × Int × Int) ⊕ ((List DVaultAct) × (List UInt8) × Int × Int)) :=
some (.inl (p45, (IntKind.i64.wrap (p16 - 1)), p46, p47, p48))
noncomputable def g103_l0  (s : (List DVaultAct) × Int × (List UInt8) × Int × Int) : Option (((List DVaultAct) × Int × (List UInt8) × Int × Int) ⊕ ((List DVaultAct) × (List UInt8) × Int × Int)) :=
match s with
| (p15, p16, p17, p18, p19) =>
if (decide (p16 > 0)) = true then
(g135 (Dl00Src.mk p17 p18 p19)).bind fun r50 =>
if (p15.length + ([r50.1] : List DVaultAct).length) * 72 ≤ 140737488355328 then
if (bif (r50.1.stop != 0) then true else (r50.1.kind == 5)) = true then
if ((p15 ++ ([r50.1] : List DVaultAct)).length + ([(DVaultAct.mk 6 0 0 0 0 ([] : List Int) 0)] : List DVaultAct).length) * 72 ≤ 140737488355328 then
g103_j0 p16 ((p15 ++ ([r50.1] : List DVaultAct)) ++ ([(DVaultAct.mk 6 0 0 0 0 ([] : List Int) 0)] : List DVaultAct)) r50.2.code_ r50.2.at_ r50.2.seed
else none
else
g103_j0 p16 (p15 ++ ([r50.1] : List DVaultAct)) r50.2.code_ r50.2.at_ r50.2.seed
else none
else
some (.inr (p15, p17, p18, p19))
noncomputable def g103 (a0 : Dl00Src) : Option ((List DVaultAct) × Dl00Src) :=
(g118 a0 16).bind fun r1 =>
(g117 a0 (IntKind.i64.wrap (r1 + 3))).bind fun r3 =>
(iter (g103_l0) (([] : List DVaultAct), r3.1, r3.2.code_, r3.2.at_, r3.2.seed)).bind fun r55 =>
(match r55 with
| (p35, p36, p37, p38) =>
(slc p35 0 (if 120 < (p35.length : Int) then 120 else (p35.length : Int))).bind fun s57 =>
some (s57, (Dl00Src.mk p36 p37 p38)))
noncomputable def g51 (a0 : List UInt8) : Option (List DVaultAct) :=
(g83 a0).bind fun r1 =>
(g103 r1).bind fun r3 =>
some r3.1
noncomputable def g52_l0 (a0 : List Int) (a1 : List Int) (s : Int) : Option ((Int) ⊕ (Unit ⊕ Bool)) :=
match s with
| p8 =>
if (decide (p8 < (a0.length : Int))) = true then
(idx a0 p8).bind fun y17 =>
(idx a1 p8).bind fun y19 =>
if (y17 != y19) = true then
some (.inr (.inr false))
else
some (.inl (IntKind.i64.wrap (p8 + 1)))
else
some (.inr (.inl ()))
noncomputable def g52 (a0 : List Int) (a1 : List Int) : Option Bool :=
if ((a0.length : Int) != (a1.length : Int)) = true then
some false
else
(iter (g52_l0 a0 a1) 0).bind fun r22 =>
(match r22 with
| .inl () =>
some true
| .inr q => some q)
noncomputable def g14 (a0 : List UInt8) (a1 : List UInt8) : Option Bool :=
bindv ((bif (decide ((a0.length : Int) > 1048576)) then true else (decide ((a1.length : Int) > 1048576)))) fun v1 =>
if v1 = true then
some true
else
(g51 a0).bind fun r4 =>
(g50 r4).bind fun r6 =>
(g40 a1 0 12).bind fun r8 =>
(g44 r6.1.accounts (IntKind.i64.wrap (1 + r8)) true 0).bind fun r10 =>
(g44 r10.1 (IntKind.i64.wrap (1 + r8)) true 2).bind fun r12 =>
(g44 r10.1 (IntKind.i64.wrap (1 + r8)) false 2).bind fun r14 =>
(g44 r14.1 (IntKind.i64.wrap (1 + r8)) false 0).bind fun r16 =>
(g44 r6.1.accounts (IntKind.i64.wrap (1 + r8)) true 1).bind fun r18 =>
(g42 r6.1.accounts (IntKind.i64.wrap (1 + r8)) true 0).bind fun r20 =>
(if ((bif (bif (bif (bif (r10.2 == 0) then (r12.2 == 15) else false) then (r14.2 == 15) else false) then (r16.2 == 0) else false) then (r18.2 == 13) else false) == true) = true then g52 r10.1 r20.1 else some default).bind fun r22 =>
(if ((bif (bif (bif (bif (bif (r10.2 == 0) then (r12.2 == 15) else false) then (r14.2 == 15) else false) then (r16.2 == 0) else false) then (r18.2 == 13) else false) then r22 else false) == true) = true then g52 r10.1 r12.1 else some default).bind fun r24 =>
(if ((bif (bif (bif (bif (bif (bif (r10.2 == 0) then (r12.2 == 15) else false) then (r14.2 == 15) else false) then (r16.2 == 0) else false) then (r18.2 == 13) else false) then r22 else false) then r24 else false) == true) = true then g52 r14.1 r16.1 else some default).bind fun r26 =>
(if ((bif (bif (bif (bif (bif (bif (bif (r10.2 == 0) then (r12.2 == 15) else false) then (r14.2 == 15) else false) then (r16.2 == 0) else false) then (r18.2 == 13) else false) then r22 else false) then r24 else false) then r26 else false) == true) = true then g52 r18.1 r6.1.accounts else some default).bind fun r28 =>
bindv ((bif (bif (bif (bif (bif (bif (bif (bif (r10.2 == 0) then (r12.2 == 15) else false) then (r14.2 == 15) else false) then (r16.2 == 0) else false) then (r18.2 == 13) else false) then r22 else false) then r24 else false) then r26 else false) then r28 else false)) fun v30 =>
some v30
noncomputable def g55 (a0 : List DLease) (a1 : Int) : Option Int :=
if (decide ((IntKind.i64.wrap (a1 - (a0.length : Int))) < 0)) = true then
some (-1)
else
some (IntKind.i64.wrap (a1 - (a0.length : Int)))
noncomputable def g17 (a0 : DTable) (a1 : Int) : Option Int :=
(g55 a0.list_ a1).bind fun r1 =>
if (decide (r1 < 0)) = true then
some (-1)
else
some r1
noncomputable def g18_l0 (a0 : DTable) (s : Int) : Option ((Int) ⊕ (Unit ⊕ Bool)) :=
match s with
| p16 =>
if (decide (p16 < (a0.list_.length : Int))) = true then
(idx a0.list_ p16).bind fun y29 =>
(g56 y29.id 1 (IntKind.i64.wrap (a0.next - 1))).bind fun r31 =>
(if (((!r31) == false) && ((decide (p16 > 0)) == true)) = true then idx a0.list_ (IntKind.i64.wrap (p16 - 1)) else some default).bind fun y33 =>
bindv ((bif (bif (bif (bif (!r31) then true else (bif (decide (p16 > 0)) then (decide (y33.id ≥ y29.id)) else false)) then true else (decide (y29.until_ < 0))) then true else (decide (y29.until_ > y29.cap))) then true else (bif (!y29.queued) then (decide (y29.until_ ≤ a0.clock)) else false))) fun v35 =>
if v35 = true then
some (.inr (.inr false))
else
some (.inl (IntKind.i64.wrap (p16 + 1)))
else
some (.inr (.inl ()))
noncomputable def g18 (a0 : DTable) : Option Bool :=
(if ((decide (a0.clock < 0)) == false) = true then g56 a0.next 1 1000000 else some default).bind fun r1 =>
bindv ((bif (bif (decide (a0.clock < 0)) then true else (!r1)) then true else (decide ((a0.list_.length : Int) > 40)))) fun v3 =>
if v3 = true then
some false
else
(iter (g18_l0 a0) 0).bind fun r38 =>
(match r38 with
| .inl () =>
some true
| .inr q => some q)
noncomputable def g104 (a0 : DLease) : Option DLease :=
some a0
noncomputable def g57_l0 (a0 : List DLease) (s : (List DLease) × Int) : Option (((List DLease) × Int) ⊕ ((List DLease))) :=
match s with
| (p12, p13) =>
if (decide (p13 < (a0.length : Int))) = true then
(idx a0 p13).bind fun y27 =>
(g104 y27).bind fun r29 =>
(idx p12 p13).bind fun y31 =>
(p12[p13.toNat]?).bind fun y33 =>
some (.inl ((p12.set p13.toNat r29), (IntKind.i64.wrap (p13 + 1))))
else
some (.inr p12)
noncomputable def g57 (a0 : List DLease) : Option (List DLease) :=
if 0 ≤ (a0.length : Int) then
if (a0.length : Int) * 32 ≤ 140737488355328 then
(iter (g57_l0 a0) ((List.replicate (a0.length : Int).toNat (DLease.mk 0 0 0 false)), 0)).bind fun r35 =>
(match r35 with
| p25 =>
some p25)
else none
else none
noncomputable def g19 (a0 : DTable) : Option DTable :=
(g57 a0.list_).bind fun r1 =>
some (DTable.mk a0.clock a0.next r1)
noncomputable def g60_l0 (a0 : DTable) (s : (List Int) × Int) : Option (((List Int) × Int) ⊕ ((List Int))) :=
match s with
| (p5, p6) =>
if (decide (p6 < (a0.list_.length : Int))) = true then
(idx a0.list_ p6).bind fun y15 =>
if (p5.length + ([y15.id] : List Int).length) * 8 ≤ 140737488355328 then
some (.inl ((p5 ++ ([y15.id] : List Int)), (IntKind.i64.wrap (p6 + 1))))
else none
else
some (.inr p5)
noncomputable def g60 (a0 : DTable) : Option (List Int) :=
(iter (g60_l0 a0) ([], 0)).bind fun r18 =>
(match r18 with
| p13 =>
some p13)
noncomputable def g108_l0 (a0 : List DLease) (is1 : DLease → Option Bool) (s : Int) : Option ((Int) ⊕ (Unit ⊕ Int)) :=
match s with
| p7 =>
if (decide (p7 < (a0.length : Int))) = true then
(idx a0 p7).bind fun y16 =>
(is1 y16).bind fun r18 =>
if r18 = true then
some (.inr (.inr p7))
else
some (.inl (IntKind.i64.wrap (p7 + 1)))
else
some (.inr (.inl ()))
noncomputable def g108 (a0 : List DLease) (is1 : DLease → Option Bool) : Option Int :=
(iter (g108_l0 a0 is1) 0).bind fun r21 =>
(match r21 with
| .inl () =>
some (-1)
| .inr q => some q)
noncomputable def g105 (a0 : List DLease) (is1 : DLease → Option Bool) : Option Bool :=
(g108 a0 is1).bind fun r1 =>
some (decide (r1 ≥ 0))
noncomputable def g106 (a0 : DLease) (is1 : DLease → Option Bool) : Option Bool :=
(is1 a0).bind fun r1 =>
some (!r1)
noncomputable def g61 (a0 : List DLease) (is1 : DLease → Option Bool) : Option Bool :=
(g105 a0 (fun z106_0 => g106 z106_0 is1)).bind fun r1 =>
some (!r1)
noncomputable def g62 (a0 : DLease) (a1 : DTable) : Option Bool :=
(g63 a0.until_ 0 a0.cap).bind fun r1 =>
bindv ((bif r1 then (bif a0.queued then true else (decide (a0.until_ > a1.clock))) else false)) fun v3 =>
some v3
noncomputable def g20 (a0 : DTable) : Option Bool :=
(if ((decide (a0.clock ≥ 0)) == true) = true then g58 a0.next else some default).bind fun r1 =>
(if ((bif (bif (decide (a0.clock ≥ 0)) then r1 else false) then (decide ((a0.list_.length : Int) ≤ 40)) else false) == true) = true then g60 a0 else some default).bind fun r3 =>
(if ((bif (bif (decide (a0.clock ≥ 0)) then r1 else false) then (decide ((a0.list_.length : Int) ≤ 40)) else false) == true) = true then g59 r3 1 (IntKind.i64.wrap (a0.next - 1)) else some default).bind fun r5 =>
(if ((bif (bif (bif (decide (a0.clock ≥ 0)) then r1 else false) then (decide ((a0.list_.length : Int) ≤ 40)) else false) then r5 else false) == true) = true then g61 a0.list_ (fun z62_0 => g62 z62_0 a0) else some default).bind fun r7 =>
bindv ((bif (bif (bif (bif (decide (a0.clock ≥ 0)) then r1 else false) then (decide ((a0.list_.length : Int) ≤ 40)) else false) then r5 else false) then r7 else false)) fun v9 =>
some v9
noncomputable def g107 (a0 : DLease) (a1 : DLease) : Option Bool :=
if (a0.id != a1.id) = true then
some false
else
if (a0.until_ != a1.until_) = true then
some false
else
if (a0.cap != a1.cap) = true then
some false
else
if (!(a0.queued == a1.queued)) = true then
some false
else
some true
noncomputable def g64_l0 (a0 : List DLease) (a1 : List DLease) (s : Int) : Option ((Int) ⊕ (Unit ⊕ Bool)) :=
match s with
| p10 =>
if (decide (p10 < (a0.length : Int))) = true then
(idx a0 p10).bind fun y21 =>
(idx a1 p10).bind fun y23 =>
(g107 y21 y23).bind fun r25 =>
if (!r25) = true then
some (.inr (.inr false))
else
some (.inl (IntKind.i64.wrap (p10 + 1)))
else
some (.inr (.inl ()))
noncomputable def g64 (a0 : List DLease) (a1 : List DLease) : Option Bool :=
if ((a0.length : Int) != (a1.length : Int)) = true then
some false
else
(iter (g64_l0 a0 a1) 0).bind fun r28 =>
(match r28 with
| .inl () =>
some true
| .inr q => some q)
noncomputable def g21 (a0 : DTable) (a1 : DTable) : Option Bool :=
if (a0.clock != a1.clock) = true then
some false
else
if (a0.next != a1.next) = true then
some false
else
(g64 a0.list_ a1.list_).bind fun r3 =>
if (!r3) = true then
some false
else
some true
noncomputable def g4 (a0 : DTable) : Option Bool :=
(g17 a0 1048576).bind fun r1 =>
if (decide (r1 < 0)) = true then
some true
else
(g19 a0).bind fun r4 =>
(g18 r4).bind fun r6 =>
(g19 a0).bind fun r8 =>
(g20 r8).bind fun r10 =>
if (!(r10 == r6)) = true then
some false
else
(g19 a0).bind fun r13 =>
(g21 r8 r13).bind fun r15 =>
if (!r15) = true then
some false
else
some true
noncomputable def g36_l0 (a0 : List Int) (a1 : List Int) (s : Int) : Option ((Int) ⊕ (Unit ⊕ Bool)) :=
match s with
| p8 =>
if (decide (p8 < (a0.length : Int))) = true then
(idx a0 p8).bind fun y17 =>
(idx a1 p8).bind fun y19 =>
if (y17 != y19) = true then
some (.inr (.inr false))
else
some (.inl (IntKind.i64.wrap (p8 + 1)))
else
some (.inr (.inl ()))
noncomputable def g36 (a0 : List Int) (a1 : List Int) : Option Bool :=
if ((a0.length : Int) != (a1.length : Int)) = true then
some false
else
(iter (g36_l0 a0 a1) 0).bind fun r22 =>
(match r22 with
| .inl () =>
some true
| .inr q => some q)
noncomputable def g37_l0  (s : (List Int) × Int × Int) : Option (((List Int) × Int × Int) ⊕ ((List Int) × Int)) :=
match s with
| (p6, p7, p8) =>
if (decide (p8 < (p6.length : Int))) = true then
(idx p6 p8).bind fun y20 =>
(p6[p8.toNat]?).bind fun y22 =>
some (.inl ((p6.set p8.toNat p7), (IntKind.i64.wrap (p7 + 1)), (IntKind.i64.wrap (p8 + 1))))
else
some (.inr (p6, p7))
noncomputable def g37 (a0 : List Int) (a1 : Int) : Option (Int × (List Int)) :=
(iter (g37_l0) (a0, a1, 0)).bind fun r24 =>
(match r24 with
| (p17, p18) =>
some (p18, p17))
noncomputable def g38_l0 (a0 : List Int) (s : Int × Int) : Option ((Int × Int) ⊕ (Int ⊕ Int)) :=
match s with
| (p5, p6) =>
if (decide (p6 < (a0.length : Int))) = true then
(idx a0 p6).bind fun y15 =>
if (y15 != p5) = true then
some (.inr (.inr (-1)))
else
some (.inl ((IntKind.i64.wrap (p5 + 1)), (IntKind.i64.wrap (p6 + 1))))
else
some (.inr (.inl p5))
noncomputable def g38 (a0 : List Int) (a1 : Int) : Option Int :=
(iter (g38_l0 a0) (a1, 0)).bind fun r18 =>
(match r18 with
| .inl p13 =>
some p13
| .inr q => some q)
noncomputable def g43_l0 (a0 : List Int) (s : (List Int) × Int) : Option (((List Int) × Int) ⊕ ((List Int))) :=
match s with
| (p10, p11) =>
if (decide (p11 < (a0.length : Int))) = true then
(idx a0 p11).bind fun y23 =>
(idx p10 p11).bind fun y25 =>
(p10[p11.toNat]?).bind fun y27 =>
some (.inl ((p10.set p11.toNat y23), (IntKind.i64.wrap (p11 + 1))))
else
some (.inr p10)
noncomputable def g43 (a0 : List Int) : Option (List Int) :=
if 0 ≤ (a0.length : Int) then
if (a0.length : Int) * 8 ≤ 140737488355328 then
(iter (g43_l0 a0) ((List.replicate (a0.length : Int).toNat 0), 0)).bind fun r29 =>
(match r29 with
| p21 =>
some p21)
else none
else none
noncomputable def g12 (a0 : List Int) (a1 : Int) (a2 : Bool) (a3 : Int) : Option Bool :=
if (decide ((a0.length : Int) > 1048576)) = true then
some true
else
(g43 a0).bind fun r2 =>
(g42 r2 a1 a2 a3).bind fun r4 =>
(g43 a0).bind fun r6 =>
(g44 r6 a1 a2 a3).bind fun r8 =>
(g36 r8.1 r4.1).bind fun r10 =>
if (bif (!r10) then true else (r8.2 != r4.2)) = true then
some false
else
(g43 a0).bind fun r13 =>
(g36 r6 r13).bind fun r15 =>
if (!r15) = true then
some false
else
(g37 r6 1).bind fun r18 =>
if r18.2.length = r6.length then
(if ((decide (r18.1 < 0)) == false) = true then g36 r8.1 r4.1 else some default).bind fun r21 =>
bindv ((bif (bif (decide (r18.1 < 0)) then true else (!r21)) then true else (r8.2 != r4.2))) fun v23 =>
if v23 = true then
some false
else
(g37 r8.1 1).bind fun r26 =>
if r26.2.length = r8.1.length then
(g38 r26.2 1).bind fun r29 =>
if (decide (r29 < 0)) = true then
some false
else
if (r29 != r26.1) = true then
some false
else
(g43 a0).bind fun r33 =>
(g44 r33 a1 a2 a3).bind fun r35 =>
(g36 r35.1 r4.1).bind fun r37 =>
if (bif (!r37) then true else (r35.2 != r4.2)) = true then
some false
else
(g38 r26.2 1).bind fun r40 =>
if (decide (r40 < 0)) = true then
some false
else
if (r40 != r26.1) = true then
some false
else
some true
else none
else none
noncomputable def g72_l0  (s : (List DLease) × Int × Int) : Option (((List DLease) × Int × Int) ⊕ ((List DLease) × Int)) :=
match s with
| (p26, p27, p28) =>
if (decide (p28 < (p26.length : Int))) = true then
(idx p26 p28).bind fun y60 =>
(p26[p28.toNat]?).bind fun y62 =>
(idx (p26.set p28.toNat (DLease.mk p27 y62.until_ y62.cap y62.queued)) p28).bind fun y64 =>
((p26.set p28.toNat (DLease.mk p27 y62.until_ y62.cap y62.queued))[p28.toNat]?).bind fun y66 =>
bindv ((p26.set p28.toNat (DLease.mk p27 y62.until_ y62.cap y62.queued)).set p28.toNat (DLease.mk y66.id (IntKind.i64.wrap (p27 + 1)) y66.cap y66.queued)) fun v68 =>
(idx v68 p28).bind fun y70 =>
(v68[p28.toNat]?).bind fun y72 =>
bindv (v68.set p28.toNat (DLease.mk y72.id y72.until_ (IntKind.i64.wrap ((IntKind.i64.wrap (p27 + 1)) + 1)) y72.queued)) fun v74 =>
bindv (IntKind.i64.wrap ((IntKind.i64.wrap ((IntKind.i64.wrap (p27 + 1)) + 1)) + 1)) fun v76 =>
(idx v74 p28).bind fun y78 =>
(v74[p28.toNat]?).bind fun y80 =>
bindv (v74.set p28.toNat (DLease.mk y80.id y80.until_ y80.cap (((v76).tmod 3) == 0))) fun v82 =>
some (.inl (v82, (IntKind.i64.wrap (v76 + 1)), (IntKind.i64.wrap (p28 + 1))))
else
some (.inr (p26, p27))
noncomputable def g72 (a0 : List DLease) (a1 : Int) : Option (Int × (List DLease)) :=
(iter (g72_l0) (a0, a1, 0)).bind fun r84 =>
(match r84 with
| (p57, p58) =>
some (p58, p57))
noncomputable def g26 (a0 : DTable) (a1 : Int) : Option (Int × (List DLease)) :=
(g72 a0.list_ a1).bind fun r1 =>
if r1.2.length = a0.list_.length then
some (r1.1, r1.2)
else none
noncomputable def g73_l0 (a0 : List DLease) (s : Int × Int) : Option ((Int × Int) ⊕ (Int ⊕ Int)) :=
match s with
| (p16, p17) =>
if (decide (p17 < (a0.length : Int))) = true then
(idx a0 p17).bind fun y37 =>
if (y37.id != p16) = true then
some (.inr (.inr (-1)))
else
(idx a0 p17).bind fun y40 =>
if (y40.until_ != (IntKind.i64.wrap (p16 + 1))) = true then
some (.inr (.inr (-1)))
else
(idx a0 p17).bind fun y43 =>
if (y43.cap != (IntKind.i64.wrap ((IntKind.i64.wrap (p16 + 1)) + 1))) = true then
some (.inr (.inr (-1)))
else
bindv (IntKind.i64.wrap ((IntKind.i64.wrap ((IntKind.i64.wrap (p16 + 1)) + 1)) + 1)) fun v46 =>
(idx a0 p17).bind fun y48 =>
if (!(y48.queued == (((v46).tmod 3) == 0))) = true then
some (.inr (.inr (-1)))
else
some (.inl ((IntKind.i64.wrap (v46 + 1)), (IntKind.i64.wrap (p17 + 1))))
else
some (.inr (.inl p16))
noncomputable def g73 (a0 : List DLease) (a1 : Int) : Option Int :=
(iter (g73_l0 a0) (a1, 0)).bind fun r51 =>
(match r51 with
| .inl p35 =>
some p35
| .inr q => some q)
noncomputable def g27 (a0 : DTable) (a1 : Int) : Option Int :=
(g73 a0.list_ a1).bind fun r1 =>
if (decide (r1 < 0)) = true then
some (-1)
else
some r1
noncomputable def g84_j0 (p37 : Int) (p115 : Int) (p116 : Int) (p117 : List DLease) (p118 : List UInt8) (p119 : Int) (p120 : Int) : Option ((Int × Int × Int × (List DLease) × (List UInt8) × Int × Int) ⊕ (Int × Int × (List DLease) × (List UInt8) × Int × Int)) :=
some (.inl ((IntKind.i64.wrap (p37 - 1)), p115, p116, p117, p118, p119, p120))
noncomputable def g84_l0  (s : Int × Int × Int × (List DLease) × (List UInt8) × Int × Int) : Option ((Int × Int × Int × (List DLease) × (List UInt8) × Int × Int) ⊕ (Int × Int × (List DLease) × (List UInt8) × Int × Int)) :=
match s with
| (p37, p38, p39, p40, p41, p42, p43) =>
if (decide (p37 > 0)) = true then
(g117 (Dl00Src.mk p41 p42 p43) 6).bind fun r122 =>
if (r122.1 == 0) = true then
(g117 r122.2 9).bind fun r125 =>
(g81 (DTable.mk p38 p39 p40) (IntKind.i64.wrap (p38 + r125.1))).bind fun r127 =>
g84_j0 p37 r127.1.clock r127.1.next r127.1.list_ r125.2.code_ r125.2.at_ r125.2.seed
else
if (r122.1 == 1) = true then
(g117 r122.2 9).bind fun r130 =>
(g74 (DTable.mk p38 p39 p40) (IntKind.i64.wrap (1 + r130.1))).bind fun r132 =>
g84_j0 p37 r132.1.clock r132.1.next r132.1.list_ r130.2.code_ r130.2.at_ r130.2.seed
else
if (r122.1 == 2) = true then
(g117 r122.2 9).bind fun r135 =>
(g117 r135.2 20).bind fun r137 =>
(g79 (DTable.mk p38 p39 p40) (IntKind.i64.wrap (1 + r135.1)) (IntKind.i64.wrap (1 + r137.1))).bind fun r139 =>
g84_j0 p37 r139.1.clock r139.1.next r139.1.list_ r137.2.code_ r137.2.at_ r137.2.seed
else
(g117 r122.2 12).bind fun r141 =>
(g117 r141.2 12).bind fun r143 =>
(g70 (DTable.mk p38 p39 p40) (IntKind.i64.wrap (1 + r141.1)) (IntKind.i64.wrap ((IntKind.i64.wrap (1 + r141.1)) + r143.1))).bind fun r145 =>
g84_j0 p37 r145.1.clock r145.1.next r145.1.list_ r143.2.code_ r143.2.at_ r143.2.seed
else
some (.inr (p38, p39, p40, p41, p42, p43))
noncomputable def g84_j1 (p156 : Int) (p157 : Int) (p158 : List DLease) (p159 : List UInt8) (p160 : Int) (p161 : Int) : Option (DTable × Dl00Src) :=
some ((DTable.mk p156 p157 p158), (Dl00Src.mk p159 p160 p161))
noncomputable def g84 (a0 : Dl00Src) : Option (DTable × Dl00Src) :=
(g118 a0 10).bind fun r1 =>
(g117 a0 (IntKind.i64.wrap (r1 + 2))).bind fun r3 =>
(iter (g84_l0) (r3.1, 0, 1, ([] : List DLease), r3.2.code_, r3.2.at_, r3.2.seed)).bind fun r147 =>
(match r147 with
| (p83, p84, p85, p86, p87, p88) =>
(g119 (Dl00Src.mk p86 p87 p88) 20).bind fun r149 =>
if r149.1 = true then
(g117 r149.2 20).bind fun r164 =>
(g81 (DTable.mk p83 p84 p85) (IntKind.i64.wrap (9223372036854775807 - r164.1))).bind fun r166 =>
g84_j1 r166.1.clock r166.1.next r166.1.list_ r164.2.code_ r164.2.at_ r164.2.seed
else
g84_j1 p83 p84 p85 r149.2.code_ r149.2.at_ r149.2.seed)
noncomputable def g39 (a0 : List UInt8) : Option DTable :=
(g83 a0).bind fun r1 =>
(g84 r1).bind fun r3 =>
some r3.1
noncomputable def g54 (a0 : Int) (a1 : Int) : Option Int :=
if (decide (a0 > (IntKind.i64.wrap (9223372036854775807 - a1)))) = true then
some 9223372036854775807
else
some (IntKind.i64.wrap (a0 + a1))
def g66 (a0 : List DLease) : Option (List DLease) := if ([] : List DLease).length + a0.length ≤ 4398046511104 then some a0 else none
noncomputable def g109_l0 (a0 : List Int) (s : Int) : Option ((Int) ⊕ (Unit ⊕ Int)) :=
match s with
| p5 =>
if (decide (p5 < (a0.length : Int))) = true then
(idx a0 p5).bind fun y12 =>
if (y12 != 0) = true then
some (.inr (.inr y12))
else
some (.inl (IntKind.i64.wrap (p5 + 1)))
else
some (.inr (.inl ()))
noncomputable def g109 (a0 : List Int) : Option Int :=
(iter (g109_l0 a0) 0).bind fun r15 =>
(match r15 with
| .inl () =>
some 0
| .inr q => some q)
noncomputable def g110 (a0 : Int) (a1 : Int) : Option Int :=
(g136 a0).bind fun r1 =>
(g136 a1).bind fun r3 =>
if r1 = true then
if r3 = true then
some 0
else
some (-1)
else
if r3 = true then
some 1
else
if (decide (a0 < a1)) = true then
some (-1)
else
if (decide (a0 > a1)) = true then
some 1
else
some 0
noncomputable def g69 (a0 : DLease) (a1 : DLease) : Option Int :=
(g110 a0.until_ a1.until_).bind fun r1 =>
(g110 a0.id a1.id).bind fun r3 =>
(g109 ([r1, r3] : List Int)).bind fun r5 =>
some r5
noncomputable def g113_l0 (a0 : List DLease) (a1 : Int) (is2 : DLease → Int → Option Int) (s : Int × Int) : Option ((Int × Int) ⊕ (Int)) :=
match s with
| (p9, p10) =>
if (decide (p9 < p10)) = true then
bindv (IntKind.i64.wrap (ishr .u64 (IntKind.u64.wrap (IntKind.i64.wrap (p9 + p10))) 1)) fun v23 =>
(idx a0 v23).bind fun y25 =>
(is2 y25 a1).bind fun r27 =>
if (decide (r27 < 0)) = true then
some (.inl ((IntKind.i64.wrap (v23 + 1)), p10))
else
some (.inl (p9, v23))
else
some (.inr p9)
noncomputable def g113 (a0 : List DLease) (a1 : Int) (is2 : DLease → Int → Option Int) : Option (Int × Bool) :=
(iter (g113_l0 a0 a1 is2) (0, (a0.length : Int))).bind fun r30 =>
(match r30 with
| p21 =>
(if ((decide (p21 < (a0.length : Int))) == true) = true then idx a0 p21 else some default).bind fun y32 =>
(if ((decide (p21 < (a0.length : Int))) == true) = true then is2 y32 a1 else some default).bind fun r34 =>
some (p21, (bif (decide (p21 < (a0.length : Int))) then (r34 == 0) else false)))
noncomputable def g114 (a0 : DLease) (a1 : Int) : Option Int :=
(g110 a0.id a1).bind fun r1 =>
some r1
noncomputable def g77 (a0 : DTable) (a1 : Int) : Option (Int × Bool) :=
(g113 a0.list_ a1 (fun z114_0 z114_1 => g114 z114_0 z114_1)).bind fun r1 =>
some (r1.1, r1.2)
noncomputable def g112 (a0 : DTable) : Option DTable :=
(g66 a0.list_).bind fun r1 =>
some (DTable.mk a0.clock a0.next r1)
noncomputable def g148_l1 (a1 : Int) (is3 : DLease → DLease → Option Int) (s : (List DLease) × Int) : Option (((List DLease) × Int) ⊕ ((List DLease))) :=
match s with
| (p136, p137) =>
(if ((decide (p137 > a1)) == true) = true then idx p136 p137 else some default).bind fun y164 =>
(if ((decide (p137 > a1)) == true) = true then p136[p137.toNat]? else some default).bind fun y166 =>
(if ((decide (p137 > a1)) == true) = true then idx p136 (IntKind.i64.wrap (p137 - 1)) else some default).bind fun y168 =>
(if ((decide (p137 > a1)) == true) = true then p136[(IntKind.i64.wrap (p137 - 1)).toNat]? else some default).bind fun y170 =>
(if ((decide (p137 > a1)) == true) = true then is3 y166 y170 else some default).bind fun r172 =>
if (bif (decide (p137 > a1)) then (decide (r172 < 0)) else false) = true then
(idx p136 (IntKind.i64.wrap (p137 - 1))).bind fun y175 =>
(p136[(IntKind.i64.wrap (p137 - 1)).toNat]?).bind fun y177 =>
(idx p136 p137).bind fun y179 =>
(p136[p137.toNat]?).bind fun y181 =>
(idx (p136.set p137.toNat y177) (IntKind.i64.wrap (p137 - 1))).bind fun y183 =>
((p136.set p137.toNat y177)[(IntKind.i64.wrap (p137 - 1)).toNat]?).bind fun y185 =>
some (.inl (((p136.set p137.toNat y177).set ((IntKind.i64.wrap (p137 - 1)).toNat) y181), (IntKind.i64.wrap (p137 - 1))))
else
some (.inr p136)
noncomputable def g148_l0 (a1 : Int) (a2 : Int) (is3 : DLease → DLease → Option Int) (s : (List DLease) × Int) : Option (((List DLease) × Int) ⊕ ((List DLease))) :=
match s with
| (p55, p56) =>
if (decide (p56 < a2)) = true then
(iter (g148_l1 a1 is3) (p55, p56)).bind fun r187 =>
(match r187 with
| p163 =>
some (.inl (p163, (IntKind.i64.wrap (p56 + 1)))))
else
some (.inr p55)
noncomputable def g148 (a0 : List DLease) (a1 : Int) (a2 : Int) (is3 : DLease → DLease → Option Int) : Option (List DLease) :=
(iter (g148_l0 a1 a2 is3) (a0, (IntKind.i64.wrap (a1 + 1)))).bind fun r189 =>
(match r189 with
| p111 =>
some p111)
noncomputable def g159_j0 (a3 : Int) (is4 : DLease → DLease → Option Int) (p39 : List DLease) (p40 : Int) (p96 : Int) : Option (((List DLease) × Int) ⊕ ((List DLease) ⊕ (List DLease))) :=
(idx p39 (IntKind.i64.wrap (a3 + p40))).bind fun y97 =>
(p39[(IntKind.i64.wrap (a3 + p40)).toNat]?).bind fun y99 =>
(idx p39 (IntKind.i64.wrap (a3 + p96))).bind fun y101 =>
(p39[(IntKind.i64.wrap (a3 + p96)).toNat]?).bind fun y103 =>
(is4 y99 y103).bind fun r105 =>
if (!(decide (r105 < 0))) = true then
some (.inr (.inr p39))
else
(idx p39 (IntKind.i64.wrap (a3 + p96))).bind fun y108 =>
(p39[(IntKind.i64.wrap (a3 + p96)).toNat]?).bind fun y110 =>
(idx p39 (IntKind.i64.wrap (a3 + p40))).bind fun y112 =>
(p39[(IntKind.i64.wrap (a3 + p40)).toNat]?).bind fun y114 =>
(idx (p39.set ((IntKind.i64.wrap (a3 + p40)).toNat) y110) (IntKind.i64.wrap (a3 + p96))).bind fun y116 =>
((p39.set ((IntKind.i64.wrap (a3 + p40)).toNat) y110)[(IntKind.i64.wrap (a3 + p96)).toNat]?).bind fun y118 =>
some (.inl (((p39.set ((IntKind.i64.wrap (a3 + p40)).toNat) y110).set ((IntKind.i64.wrap (a3 + p96)).toNat) y114), p96))
noncomputable def g159_l0 (a2 : Int) (a3 : Int) (is4 : DLease → DLease → Option Int) (s : (List DLease) × Int) : Option (((List DLease) × Int) ⊕ ((List DLease) ⊕ (List DLease))) :=
match s with
| (p39, p40) =>
if (decide ((IntKind.i64.wrap ((IntKind.i64.wrap (2 * p40)) + 1)) ≥ a2)) = true then
some (.inr (.inl p39))
else
(if ((decide ((IntKind.i64.wrap ((IntKind.i64.wrap ((IntKind.i64.wrap (2 * p40)) + 1)) + 1)) < a2)) == true) = true then idx p39 (IntKind.i64.wrap (a3 + (IntKind.i64.wrap ((IntKind.i64.wrap (2 * p40)) + 1)))) else some default).bind fun y83 =>
(if ((decide ((IntKind.i64.wrap ((IntKind.i64.wrap ((IntKind.i64.wrap (2 * p40)) + 1)) + 1)) < a2)) == true) = true then p39[(IntKind.i64.wrap (a3 + (IntKind.i64.wrap ((IntKind.i64.wrap (2 * p40)) + 1)))).toNat]? else some default).bind fun y85 =>
(if ((decide ((IntKind.i64.wrap ((IntKind.i64.wrap ((IntKind.i64.wrap (2 * p40)) + 1)) + 1)) < a2)) == true) = true then idx p39 (IntKind.i64.wrap ((IntKind.i64.wrap (a3 + (IntKind.i64.wrap ((IntKind.i64.wrap (2 * p40)) + 1)))) + 1)) else some default).bind fun y87 =>
(if ((decide ((IntKind.i64.wrap ((IntKind.i64.wrap ((IntKind.i64.wrap (2 * p40)) + 1)) + 1)) < a2)) == true) = true then p39[(IntKind.i64.wrap ((IntKind.i64.wrap (a3 + (IntKind.i64.wrap ((IntKind.i64.wrap (2 * p40)) + 1)))) + 1)).toNat]? else some default).bind fun y89 =>
(if ((decide ((IntKind.i64.wrap ((IntKind.i64.wrap ((IntKind.i64.wrap (2 * p40)) + 1)) + 1)) < a2)) == true) = true then is4 y85 y89 else some default).bind fun r91 =>
bindv ((bif (decide ((IntKind.i64.wrap ((IntKind.i64.wrap ((IntKind.i64.wrap (2 * p40)) + 1)) + 1)) < a2)) then (decide (r91 < 0)) else false)) fun v93 =>
if v93 = true then
g159_j0 a3 is4 p39 p40 (IntKind.i64.wrap ((IntKind.i64.wrap ((IntKind.i64.wrap (2 * p40)) + 1)) + 1))
else
g159_j0 a3 is4 p39 p40 (IntKind.i64.wrap ((IntKind.i64.wrap (2 * p40)) + 1))
noncomputable def g159 (a0 : List DLease) (a1 : Int) (a2 : Int) (a3 : Int) (is4 : DLease → DLease → Option Int) : Option (List DLease) :=
(iter (g159_l0 a2 a3 is4) (a0, a1)).bind fun r122 =>
(match r122 with
| .inl p81 =>
some p81
| .inr q => some q)
noncomputable def g149_l0 (a1 : Int) (a2 : Int) (is3 : DLease → DLease → Option Int) (s : (List DLease) × Int) : Option (((List DLease) × Int) ⊕ ((List DLease))) :=
match s with
| (p7, p8) =>
if (decide (p8 ≥ 0)) = true then
(g159 p7 p8 (IntKind.i64.wrap (a2 - a1)) a1 is3).bind fun r17 =>
if r17.length = p7.length then
some (.inl (r17, (IntKind.i64.wrap (p8 - 1))))
else none
else
some (.inr p7)
noncomputable def g149_l1 (a1 : Int) (is3 : DLease → DLease → Option Int) (s : (List DLease) × Int) : Option (((List DLease) × Int) ⊕ ((List DLease))) :=
match s with
| (p38, p39) =>
if (decide (p39 ≥ 0)) = true then
(idx p38 (IntKind.i64.wrap (a1 + p39))).bind fun y60 =>
(p38[(IntKind.i64.wrap (a1 + p39)).toNat]?).bind fun y62 =>
(idx p38 a1).bind fun y64 =>
(p38[a1.toNat]?).bind fun y66 =>
(idx (p38.set a1.toNat y62) (IntKind.i64.wrap (a1 + p39))).bind fun y68 =>
((p38.set a1.toNat y62)[(IntKind.i64.wrap (a1 + p39)).toNat]?).bind fun y70 =>
(g159 ((p38.set a1.toNat y62).set ((IntKind.i64.wrap (a1 + p39)).toNat) y66) 0 p39 a1 is3).bind fun r72 =>
if r72.length = ((p38.set a1.toNat y62).set ((IntKind.i64.wrap (a1 + p39)).toNat) y66).length then
some (.inl (r72, (IntKind.i64.wrap (p39 - 1))))
else none
else
some (.inr p38)
noncomputable def g149 (a0 : List DLease) (a1 : Int) (a2 : Int) (is3 : DLease → DLease → Option Int) : Option (List DLease) :=
bindv (IntKind.i64.wrap (((IntKind.i64.wrap ((IntKind.i64.wrap (a2 - a1)) - 1))).tdiv 2)) fun v1 =>
(iter (g149_l0 a1 a2 is3) (a0, v1)).bind fun r20 =>
(match r20 with
| p15 =>
(iter (g149_l1 a1 is3) (p15, (IntKind.i64.wrap ((IntKind.i64.wrap (a2 - a1)) - 1)))).bind fun r75 =>
(match r75 with
| p58 =>
some p58))
noncomputable def g156_j1 (p5 : Int) (p6 : Int) : Option Int :=
(idx ([0, 1, 2, 2, 3, 3, 3, 3, 4, 4, 4, 4, 4, 4, 4, 4, 5, 5, 5, 5, 5, 5, 5, 5, 5, 5, 5, 5, 5, 5, 5, 5, 6, 6, 6, 6, 6, 6, 6, 6, 6, 6, 6, 6, 6, 6, 6, 6, 6, 6, 6, 6, 6, 6, 6, 6, 6, 6, 6, 6, 6, 6, 6, 6, 7, 7, 7, 7, 7, 7, 7, 7, 7, 7, 7, 7, 7, 7, 7, 7, 7, 7, 7, 7, 7, 7, 7, 7, 7, 7, 7, 7, 7, 7, 7, 7, 7, 7, 7, 7, 7, 7, 7, 7, 7, 7, 7, 7, 7, 7, 7, 7, 7, 7, 7, 7, 7, 7, 7, 7, 7, 7, 7, 7, 7, 7, 7, 7, 8, 8, 8, 8, 8, 8, 8, 8, 8, 8, 8, 8, 8, 8, 8, 8, 8, 8, 8, 8, 8, 8, 8, 8, 8, 8, 8, 8, 8, 8, 8, 8, 8, 8, 8, 8, 8, 8, 8, 8, 8, 8, 8, 8, 8, 8, 8, 8, 8, 8, 8, 8, 8, 8, 8, 8, 8, 8, 8, 8, 8, 8, 8, 8, 8, 8, 8, 8, 8, 8, 8, 8, 8, 8, 8, 8, 8, 8, 8, 8, 8, 8, 8, 8, 8, 8, 8, 8, 8, 8, 8, 8, 8, 8, 8, 8, 8, 8, 8, 8, 8, 8, 8, 8, 8, 8, 8, 8, 8, 8, 8, 8, 8, 8, 8, 8, 8, 8, 8, 8, 8, 8, 8, 8, 8, 8, 8, 8] : List UInt8) ((b8 p5).toNat : Int)).bind fun y7 =>
some (IntKind.i64.wrap (p6 + (IntKind.i64.wrap ((y7).toNat : Int))))
noncomputable def g156_j0 (p2 : Int) (p3 : Int) : Option Int :=
if (decide (p2 ≥ 256)) = true then
g156_j1 (ishr .u32 p2 8) (IntKind.i64.wrap (p3 + 8))
else
g156_j1 p2 p3
noncomputable def g156 (a0 : Int) : Option Int :=
if (decide (a0 ≥ 65536)) = true then
g156_j0 (ishr .u32 a0 16) 16
else
g156_j0 a0 0
noncomputable def g157_j2 (p8 : Int) (p9 : Int) : Option Int :=
(idx ([0, 1, 2, 2, 3, 3, 3, 3, 4, 4, 4, 4, 4, 4, 4, 4, 5, 5, 5, 5, 5, 5, 5, 5, 5, 5, 5, 5, 5, 5, 5, 5, 6, 6, 6, 6, 6, 6, 6, 6, 6, 6, 6, 6, 6, 6, 6, 6, 6, 6, 6, 6, 6, 6, 6, 6, 6, 6, 6, 6, 6, 6, 6, 6, 7, 7, 7, 7, 7, 7, 7, 7, 7, 7, 7, 7, 7, 7, 7, 7, 7, 7, 7, 7, 7, 7, 7, 7, 7, 7, 7, 7, 7, 7, 7, 7, 7, 7, 7, 7, 7, 7, 7, 7, 7, 7, 7, 7, 7, 7, 7, 7, 7, 7, 7, 7, 7, 7, 7, 7, 7, 7, 7, 7, 7, 7, 7, 7, 8, 8, 8, 8, 8, 8, 8, 8, 8, 8, 8, 8, 8, 8, 8, 8, 8, 8, 8, 8, 8, 8, 8, 8, 8, 8, 8, 8, 8, 8, 8, 8, 8, 8, 8, 8, 8, 8, 8, 8, 8, 8, 8, 8, 8, 8, 8, 8, 8, 8, 8, 8, 8, 8, 8, 8, 8, 8, 8, 8, 8, 8, 8, 8, 8, 8, 8, 8, 8, 8, 8, 8, 8, 8, 8, 8, 8, 8, 8, 8, 8, 8, 8, 8, 8, 8, 8, 8, 8, 8, 8, 8, 8, 8, 8, 8, 8, 8, 8, 8, 8, 8, 8, 8, 8, 8, 8, 8, 8, 8, 8, 8, 8, 8, 8, 8, 8, 8, 8, 8, 8, 8, 8, 8, 8, 8, 8, 8] : List UInt8) ((b8 p8).toNat : Int)).bind fun y10 =>
some (IntKind.i64.wrap (p9 + (IntKind.i64.wrap ((y10).toNat : Int))))
noncomputable def g157_j1 (p5 : Int) (p6 : Int) : Option Int :=
if (decide (p5 ≥ 256)) = true then
g157_j2 (ishr .u64 p5 8) (IntKind.i64.wrap (p6 + 8))
else
g157_j2 p5 p6
noncomputable def g157_j0 (p2 : Int) (p3 : Int) : Option Int :=
if (decide (p2 ≥ 65536)) = true then
g157_j1 (ishr .u64 p2 16) (IntKind.i64.wrap (p3 + 16))
else
g157_j1 p2 p3
noncomputable def g157 (a0 : Int) : Option Int :=
if (decide (a0 ≥ 4294967296)) = true then
g157_j0 (ishr .u64 a0 32) 32
else
g157_j0 a0 0
noncomputable def g138 (a0 : Int) : Option Int :=
if false = true then
(g156 (IntKind.u32.wrap a0)).bind fun r2 =>
some r2
else
(g157 a0).bind fun r4 =>
some r4
noncomputable def g160 (a0 : Int) : Option Int :=
(g138 (IntKind.u64.wrap a0)).bind fun r1 =>
if 0 ≤ r1 then
some (ishl .u64 1 r1)
else none
noncomputable def g161 (a0 : Int) : Option (Int × Int) :=
bindv (ixor .u64 (ixor .u64 a0 (ishl .u64 a0 13)) (ishr .u64 (ixor .u64 a0 (ishl .u64 a0 13)) 7)) fun v1 =>
some (ixor .u64 v1 (ishl .u64 v1 17), ixor .u64 v1 (ishl .u64 v1 17))
noncomputable def g150_j0 (a1 : Int) (p27 : List DLease) (p28 : Int) (r58 : Int × Int) (p63 : Int) : Option (((List DLease) × Int × Int) ⊕ ((List DLease))) :=
(idx p27 (IntKind.i64.wrap (a1 + p63))).bind fun y64 =>
(p27[(IntKind.i64.wrap (a1 + p63)).toNat]?).bind fun y66 =>
(idx p27 p28).bind fun y68 =>
(p27[p28.toNat]?).bind fun y70 =>
(idx (p27.set p28.toNat y66) (IntKind.i64.wrap (a1 + p63))).bind fun y72 =>
((p27.set p28.toNat y66)[(IntKind.i64.wrap (a1 + p63)).toNat]?).bind fun y74 =>
some (.inl (((p27.set p28.toNat y66).set ((IntKind.i64.wrap (a1 + p63)).toNat) y70), (IntKind.i64.wrap (p28 + 1)), r58.2))
noncomputable def g150_l0 (a1 : Int) (a2 : Int) (r2 : Int) (s : (List DLease) × Int × Int) : Option (((List DLease) × Int × Int) ⊕ ((List DLease))) :=
match s with
| (p27, p28, p29) =>
bindv ((decide (p28 ≤ (IntKind.i64.wrap ((IntKind.i64.wrap (a1 + (IntKind.i64.wrap ((IntKind.i64.wrap (((IntKind.i64.wrap (a2 - a1))).tdiv 4)) * 2)))) + 1))))) fun v55 =>
if v55 = true then
(g161 p29).bind fun r58 =>
bindv ((decide ((IntKind.i64.wrap (iand .u64 r58.1 (IntKind.u64.wrap (r2 - 1)))) ≥ (IntKind.i64.wrap (a2 - a1))))) fun v60 =>
if v60 = true then
g150_j0 a1 p27 p28 r58 (IntKind.i64.wrap ((IntKind.i64.wrap (iand .u64 r58.1 (IntKind.u64.wrap (r2 - 1)))) - (IntKind.i64.wrap (a2 - a1))))
else
g150_j0 a1 p27 p28 r58 (IntKind.i64.wrap (iand .u64 r58.1 (IntKind.u64.wrap (r2 - 1))))
else
some (.inr p27)
noncomputable def g150 (a0 : List DLease) (a1 : Int) (a2 : Int) (is3 : DLease → DLease → Option Int) : Option (List DLease) :=
if (decide ((IntKind.i64.wrap (a2 - a1)) ≥ 8)) = true then
(g160 (IntKind.i64.wrap (a2 - a1))).bind fun r2 =>
bindv (IntKind.i64.wrap ((IntKind.i64.wrap (a1 + (IntKind.i64.wrap ((IntKind.i64.wrap (((IntKind.i64.wrap (a2 - a1))).tdiv 4)) * 2)))) - 1)) fun v4 =>
(iter (g150_l0 a1 a2 r2) (a0, v4, (IntKind.u64.wrap (IntKind.i64.wrap (a2 - a1))))).bind fun r78 =>
(match r78 with
| p54 =>
some p54)
else
some a0
noncomputable def g165 (a0 : List DLease) (a1 : Int) (a2 : Int) (a3 : Int) (is4 : DLease → DLease → Option Int) : Option (Int × Int × Int) :=
(idx a0 a2).bind fun y1 =>
(idx a0 a1).bind fun y3 =>
(is4 y1 y3).bind fun r5 =>
if (decide (r5 < 0)) = true then
some (a2, a1, IntKind.i64.wrap (a3 + 1))
else
some (a1, a2, a3)
noncomputable def g163 (a0 : List DLease) (a1 : Int) (a2 : Int) (a3 : Int) (a4 : Int) (is5 : DLease → DLease → Option Int) : Option (Int × Int) :=
(g165 a0 a1 a2 a4 is5).bind fun r1 =>
(g165 a0 r1.2.1 a3 r1.2.2 is5).bind fun r3 =>
(g165 a0 r1.1 r3.1 r3.2.2 is5).bind fun r5 =>
some (r5.2.1, r5.2.2)
noncomputable def g162 (a0 : List DLease) (a1 : Int) (a2 : Int) (is3 : DLease → DLease → Option Int) : Option (Int × Int) :=
(g163 a0 (IntKind.i64.wrap (a1 - 1)) a1 (IntKind.i64.wrap (a1 + 1)) a2 is3).bind fun r1 =>
some (r1.1, r1.2)
noncomputable def g151_j0 (p21 : Int) (p22 : Int) : Option (Int × Int) :=
if (p22 == 0) = true then
some (p21, 1)
else
if (p22 == 12) = true then
some (p21, 2)
else
some (p21, 0)
noncomputable def g151_j1 (a0 : List DLease) (is3 : DLease → DLease → Option Int) (p34 : Int) (p35 : Int) (p36 : Int) (p37 : Int) : Option (Int × Int) :=
(g163 a0 p34 p35 p36 p37 is3).bind fun r38 =>
g151_j0 r38.1 r38.2
noncomputable def g151 (a0 : List DLease) (a1 : Int) (a2 : Int) (is3 : DLease → DLease → Option Int) : Option (Int × Int) :=
bindv (IntKind.i64.wrap (a1 + (IntKind.i64.wrap ((IntKind.i64.wrap (((IntKind.i64.wrap (a2 - a1))).tdiv 4)) * 1)))) fun v1 =>
bindv (IntKind.i64.wrap (a1 + (IntKind.i64.wrap ((IntKind.i64.wrap (((IntKind.i64.wrap (a2 - a1))).tdiv 4)) * 2)))) fun v3 =>
bindv (IntKind.i64.wrap (a1 + (IntKind.i64.wrap ((IntKind.i64.wrap (((IntKind.i64.wrap (a2 - a1))).tdiv 4)) * 3)))) fun v5 =>
if (decide ((IntKind.i64.wrap (a2 - a1)) ≥ 8)) = true then
if (decide ((IntKind.i64.wrap (a2 - a1)) ≥ 50)) = true then
(g162 a0 v1 0 is3).bind fun r42 =>
(g162 a0 v3 r42.2 is3).bind fun r44 =>
(g162 a0 v5 r44.2 is3).bind fun r46 =>
g151_j1 a0 is3 r42.1 r44.1 r46.1 r46.2
else
g151_j1 a0 is3 v1 v3 v5 0
else
g151_j0 v3 0
noncomputable def g152_l0  (s : (List DLease) × Int × Int) : Option (((List DLease) × Int × Int) ⊕ ((List DLease))) :=
match s with
| (p14, p15, p16) =>
if (decide (p15 < p16)) = true then
(idx p14 p16).bind fun y35 =>
(p14[p16.toNat]?).bind fun y37 =>
(idx p14 p15).bind fun y39 =>
(p14[p15.toNat]?).bind fun y41 =>
(idx (p14.set p15.toNat y37) p16).bind fun y43 =>
((p14.set p15.toNat y37)[p16.toNat]?).bind fun y45 =>
some (.inl (((p14.set p15.toNat y37).set p16.toNat y41), (IntKind.i64.wrap (p15 + 1)), (IntKind.i64.wrap (p16 - 1))))
else
some (.inr p14)
noncomputable def g152 (a0 : List DLease) (a1 : Int) (a2 : Int) (is3 : DLease → DLease → Option Int) : Option (List DLease) :=
(iter (g152_l0) (a0, a1, (IntKind.i64.wrap (a2 - 1)))).bind fun r47 =>
(match r47 with
| p33 =>
some p33)
noncomputable def g153_j0 (p156 : Int) (p465 : List DLease) (p466 : Int) : Option (((List DLease) × Int × Int) ⊕ ((List DLease) ⊕ (Bool × (List DLease)))) :=
some (.inl (p465, p466, (IntKind.i64.wrap (p156 + 1))))
noncomputable def g153_l1 (a2 : Int) (is3 : DLease → DLease → Option Int) (p154 : List DLease) (s : Int) : Option ((Int) ⊕ (Int)) :=
match s with
| p479 =>
(if ((decide (p479 < a2)) == true) = true then idx p154 p479 else some default).bind fun y493 =>
(if ((decide (p479 < a2)) == true) = true then p154[p479.toNat]? else some default).bind fun y495 =>
(if ((decide (p479 < a2)) == true) = true then idx p154 (IntKind.i64.wrap (p479 - 1)) else some default).bind fun y497 =>
(if ((decide (p479 < a2)) == true) = true then p154[(IntKind.i64.wrap (p479 - 1)).toNat]? else some default).bind fun y499 =>
(if ((decide (p479 < a2)) == true) = true then is3 y495 y499 else some default).bind fun r501 =>
if (bif (decide (p479 < a2)) then (!(decide (r501 < 0))) else false) = true then
some (.inl (IntKind.i64.wrap (p479 + 1)))
else
some (.inr p479)
noncomputable def g153_l2 (a2 : Int) (is3 : DLease → DLease → Option Int) (s : (List DLease) × Int) : Option (((List DLease) × Int) ⊕ ((List DLease))) :=
match s with
| (p602, p603) =>
if (decide (p603 < a2)) = true then
(idx p602 p603).bind fun y632 =>
(p602[p603.toNat]?).bind fun y634 =>
(idx p602 (IntKind.i64.wrap (p603 - 1))).bind fun y636 =>
(p602[(IntKind.i64.wrap (p603 - 1)).toNat]?).bind fun y638 =>
(is3 y634 y638).bind fun r640 =>
if (!(decide (r640 < 0))) = true then
some (.inr p602)
else
(idx p602 (IntKind.i64.wrap (p603 - 1))).bind fun y643 =>
(p602[(IntKind.i64.wrap (p603 - 1)).toNat]?).bind fun y645 =>
(idx p602 p603).bind fun y647 =>
(p602[p603.toNat]?).bind fun y649 =>
(idx (p602.set p603.toNat y645) (IntKind.i64.wrap (p603 - 1))).bind fun y651 =>
((p602.set p603.toNat y645)[(IntKind.i64.wrap (p603 - 1)).toNat]?).bind fun y653 =>
some (.inl (((p602.set p603.toNat y645).set ((IntKind.i64.wrap (p603 - 1)).toNat) y649), (IntKind.i64.wrap (p603 + 1))))
else
some (.inr p602)
noncomputable def g153_j1 (a2 : Int) (is3 : DLease → DLease → Option Int) (p156 : Int) (p492 : Int) (p576 : List DLease) : Option (((List DLease) × Int × Int) ⊕ ((List DLease) ⊕ (Bool × (List DLease)))) :=
if (decide ((IntKind.i64.wrap (a2 - p492)) ≥ 2)) = true then
(iter (g153_l2 a2 is3) (p576, (IntKind.i64.wrap (p492 + 1)))).bind fun r655 =>
(match r655 with
| p630 =>
g153_j0 p156 p630 p492)
else
g153_j0 p156 p576 p492
noncomputable def g153_l3 (is3 : DLease → DLease → Option Int) (s : (List DLease) × Int) : Option (((List DLease) × Int) ⊕ ((List DLease))) :=
match s with
| (p683, p684) =>
if (decide (p684 ≥ 1)) = true then
(idx p683 p684).bind fun y713 =>
(p683[p684.toNat]?).bind fun y715 =>
(idx p683 (IntKind.i64.wrap (p684 - 1))).bind fun y717 =>
(p683[(IntKind.i64.wrap (p684 - 1)).toNat]?).bind fun y719 =>
(is3 y715 y719).bind fun r721 =>
if (!(decide (r721 < 0))) = true then
some (.inr p683)
else
(idx p683 (IntKind.i64.wrap (p684 - 1))).bind fun y724 =>
(p683[(IntKind.i64.wrap (p684 - 1)).toNat]?).bind fun y726 =>
(idx p683 p684).bind fun y728 =>
(p683[p684.toNat]?).bind fun y730 =>
(idx (p683.set p684.toNat y726) (IntKind.i64.wrap (p684 - 1))).bind fun y732 =>
((p683.set p684.toNat y726)[(IntKind.i64.wrap (p684 - 1)).toNat]?).bind fun y734 =>
some (.inl (((p683.set p684.toNat y726).set ((IntKind.i64.wrap (p684 - 1)).toNat) y730), (IntKind.i64.wrap (p684 - 1))))
else
some (.inr p683)
noncomputable def g153_l0 (a1 : Int) (a2 : Int) (is3 : DLease → DLease → Option Int) (s : (List DLease) × Int × Int) : Option (((List DLease) × Int × Int) ⊕ ((List DLease) ⊕ (Bool × (List DLease)))) :=
match s with
| (p154, p155, p156) =>
if (decide (p156 < 5)) = true then
(iter (g153_l1 a2 is3 p154) p155).bind fun r504 =>
(match r504 with
| p492 =>
if (p492 == a2) = true then
some (.inr (.inr (true, p154)))
else
if (decide ((IntKind.i64.wrap (a2 - a1)) < 50)) = true then
some (.inr (.inr (false, p154)))
else
(idx p154 (IntKind.i64.wrap (p492 - 1))).bind fun y508 =>
(p154[(IntKind.i64.wrap (p492 - 1)).toNat]?).bind fun y510 =>
(idx p154 p492).bind fun y512 =>
(p154[p492.toNat]?).bind fun y514 =>
(idx (p154.set p492.toNat y510) (IntKind.i64.wrap (p492 - 1))).bind fun y516 =>
((p154.set p492.toNat y510)[(IntKind.i64.wrap (p492 - 1)).toNat]?).bind fun y518 =>
bindv ((p154.set p492.toNat y510).set ((IntKind.i64.wrap (p492 - 1)).toNat) y514) fun v520 =>
if (decide ((IntKind.i64.wrap (p492 - a1)) ≥ 2)) = true then
(iter (g153_l3 is3) (v520, (IntKind.i64.wrap (p492 - 1)))).bind fun r736 =>
(match r736 with
| p711 =>
g153_j1 a2 is3 p156 p492 p711)
else
g153_j1 a2 is3 p156 p492 v520)
else
some (.inr (.inl p154))
noncomputable def g153 (a0 : List DLease) (a1 : Int) (a2 : Int) (is3 : DLease → DLease → Option Int) : Option (Bool × (List DLease)) :=
(iter (g153_l0 a1 a2 is3) (a0, (IntKind.i64.wrap (a1 + 1)), 0)).bind fun r738 =>
(match r738 with
| .inl p313 =>
some (false, p313)
| .inr q => some q)
noncomputable def g154_l1 (a1 : Int) (is4 : DLease → DLease → Option Int) (p84 : List DLease) (p86 : Int) (s : Int) : Option ((Int) ⊕ (Int)) :=
match s with
| p166 =>
(if ((decide (p166 ≤ p86)) == true) = true then idx p84 a1 else some default).bind fun y180 =>
(if ((decide (p166 ≤ p86)) == true) = true then p84[a1.toNat]? else some default).bind fun y182 =>
(if ((decide (p166 ≤ p86)) == true) = true then idx p84 p166 else some default).bind fun y184 =>
(if ((decide (p166 ≤ p86)) == true) = true then p84[p166.toNat]? else some default).bind fun y186 =>
(if ((decide (p166 ≤ p86)) == true) = true then is4 y182 y186 else some default).bind fun r188 =>
if (bif (decide (p166 ≤ p86)) then (!(decide (r188 < 0))) else false) = true then
some (.inl (IntKind.i64.wrap (p166 + 1)))
else
some (.inr p166)
noncomputable def g154_l2 (a1 : Int) (is4 : DLease → DLease → Option Int) (p84 : List DLease) (p179 : Int) (s : Int) : Option ((Int) ⊕ (Int)) :=
match s with
| p204 =>
(if ((decide (p179 ≤ p204)) == true) = true then idx p84 a1 else some default).bind fun y218 =>
(if ((decide (p179 ≤ p204)) == true) = true then p84[a1.toNat]? else some default).bind fun y220 =>
(if ((decide (p179 ≤ p204)) == true) = true then idx p84 p204 else some default).bind fun y222 =>
(if ((decide (p179 ≤ p204)) == true) = true then p84[p204.toNat]? else some default).bind fun y224 =>
(if ((decide (p179 ≤ p204)) == true) = true then is4 y220 y224 else some default).bind fun r226 =>
if (bif (decide (p179 ≤ p204)) then (decide (r226 < 0)) else false) = true then
some (.inl (IntKind.i64.wrap (p204 - 1)))
else
some (.inr p204)
noncomputable def g154_l0 (a1 : Int) (is4 : DLease → DLease → Option Int) (s : (List DLease) × Int × Int) : Option (((List DLease) × Int × Int) ⊕ ((List DLease) × Int)) :=
match s with
| (p84, p85, p86) =>
(iter (g154_l1 a1 is4 p84 p86) p85).bind fun r191 =>
(match r191 with
| p179 =>
(iter (g154_l2 a1 is4 p84 p179) p86).bind fun r229 =>
(match r229 with
| p217 =>
if (decide (p179 > p217)) = true then
some (.inr (p84, p179))
else
(idx p84 p217).bind fun y232 =>
(p84[p217.toNat]?).bind fun y234 =>
(idx p84 p179).bind fun y236 =>
(p84[p179.toNat]?).bind fun y238 =>
(idx (p84.set p179.toNat y234) p217).bind fun y240 =>
((p84.set p179.toNat y234)[p217.toNat]?).bind fun y242 =>
some (.inl (((p84.set p179.toNat y234).set p217.toNat y238), (IntKind.i64.wrap (p179 + 1)), (IntKind.i64.wrap (p217 - 1))))))
noncomputable def g154 (a0 : List DLease) (a1 : Int) (a2 : Int) (a3 : Int) (is4 : DLease → DLease → Option Int) : Option (Int × (List DLease)) :=
(idx a0 a3).bind fun y1 =>
(a0[a3.toNat]?).bind fun y3 =>
(idx a0 a1).bind fun y5 =>
(a0[a1.toNat]?).bind fun y7 =>
(idx (a0.set a1.toNat y3) a3).bind fun y9 =>
((a0.set a1.toNat y3)[a3.toNat]?).bind fun y11 =>
(iter (g154_l0 a1 is4) (((a0.set a1.toNat y3).set a3.toNat y7), (IntKind.i64.wrap (a1 + 1)), (IntKind.i64.wrap (a2 - 1)))).bind fun r244 =>
(match r244 with
| (p153, p154) =>
some (p154, p153))
noncomputable def g155_l0 (a0 : List DLease) (a1 : Int) (a2 : Int) (a3 : Int) (is4 : DLease → DLease → Option Int) (y3 : DLease) (y7 : DLease) (s : Int) : Option ((Int) ⊕ (Int)) :=
match s with
| p26 =>
(if ((decide (p26 ≤ (IntKind.i64.wrap (a2 - 1)))) == true) = true then idx ((a0.set a1.toNat y3).set a3.toNat y7) p26 else some default).bind fun y42 =>
(if ((decide (p26 ≤ (IntKind.i64.wrap (a2 - 1)))) == true) = true then ((a0.set a1.toNat y3).set a3.toNat y7)[p26.toNat]? else some default).bind fun y44 =>
(if ((decide (p26 ≤ (IntKind.i64.wrap (a2 - 1)))) == true) = true then idx ((a0.set a1.toNat y3).set a3.toNat y7) a1 else some default).bind fun y46 =>
(if ((decide (p26 ≤ (IntKind.i64.wrap (a2 - 1)))) == true) = true then ((a0.set a1.toNat y3).set a3.toNat y7)[a1.toNat]? else some default).bind fun y48 =>
(if ((decide (p26 ≤ (IntKind.i64.wrap (a2 - 1)))) == true) = true then is4 y44 y48 else some default).bind fun r50 =>
bindv ((bif (decide (p26 ≤ (IntKind.i64.wrap (a2 - 1)))) then (decide (r50 < 0)) else false)) fun v52 =>
if v52 = true then
some (.inl (IntKind.i64.wrap (p26 + 1)))
else
some (.inr p26)
noncomputable def g155_l1 (a0 : List DLease) (a1 : Int) (a3 : Int) (is4 : DLease → DLease → Option Int) (y3 : DLease) (y7 : DLease) (p41 : Int) (s : Int) : Option ((Int) ⊕ (Int)) :=
match s with
| p70 =>
(if ((decide (p41 ≤ p70)) == true) = true then idx ((a0.set a1.toNat y3).set a3.toNat y7) p70 else some default).bind fun y84 =>
(if ((decide (p41 ≤ p70)) == true) = true then ((a0.set a1.toNat y3).set a3.toNat y7)[p70.toNat]? else some default).bind fun y86 =>
(if ((decide (p41 ≤ p70)) == true) = true then idx ((a0.set a1.toNat y3).set a3.toNat y7) a1 else some default).bind fun y88 =>
(if ((decide (p41 ≤ p70)) == true) = true then ((a0.set a1.toNat y3).set a3.toNat y7)[a1.toNat]? else some default).bind fun y90 =>
(if ((decide (p41 ≤ p70)) == true) = true then is4 y86 y90 else some default).bind fun r92 =>
if (bif (decide (p41 ≤ p70)) then (!(decide (r92 < 0))) else false) = true then
some (.inl (IntKind.i64.wrap (p70 - 1)))
else
some (.inr p70)
noncomputable def g155_l3 (a1 : Int) (is4 : DLease → DLease → Option Int) (p195 : List DLease) (p197 : Int) (s : Int) : Option ((Int) ⊕ (Int)) :=
match s with
| p277 =>
(if ((decide (p277 ≤ p197)) == true) = true then idx p195 p277 else some default).bind fun y291 =>
(if ((decide (p277 ≤ p197)) == true) = true then p195[p277.toNat]? else some default).bind fun y293 =>
(if ((decide (p277 ≤ p197)) == true) = true then idx p195 a1 else some default).bind fun y295 =>
(if ((decide (p277 ≤ p197)) == true) = true then p195[a1.toNat]? else some default).bind fun y297 =>
(if ((decide (p277 ≤ p197)) == true) = true then is4 y293 y297 else some default).bind fun r299 =>
if (bif (decide (p277 ≤ p197)) then (decide (r299 < 0)) else false) = true then
some (.inl (IntKind.i64.wrap (p277 + 1)))
else
some (.inr p277)
noncomputable def g155_l4 (a1 : Int) (is4 : DLease → DLease → Option Int) (p195 : List DLease) (p290 : Int) (s : Int) : Option ((Int) ⊕ (Int)) :=
match s with
| p315 =>
(if ((decide (p290 ≤ p315)) == true) = true then idx p195 p315 else some default).bind fun y329 =>
(if ((decide (p290 ≤ p315)) == true) = true then p195[p315.toNat]? else some default).bind fun y331 =>
(if ((decide (p290 ≤ p315)) == true) = true then idx p195 a1 else some default).bind fun y333 =>
(if ((decide (p290 ≤ p315)) == true) = true then p195[a1.toNat]? else some default).bind fun y335 =>
(if ((decide (p290 ≤ p315)) == true) = true then is4 y331 y335 else some default).bind fun r337 =>
if (bif (decide (p290 ≤ p315)) then (!(decide (r337 < 0))) else false) = true then
some (.inl (IntKind.i64.wrap (p315 - 1)))
else
some (.inr p315)
noncomputable def g155_l2 (a1 : Int) (is4 : DLease → DLease → Option Int) (s : (List DLease) × Int × Int) : Option (((List DLease) × Int × Int) ⊕ ((List DLease) × Int)) :=
match s with
| (p195, p196, p197) =>
(iter (g155_l3 a1 is4 p195 p197) p196).bind fun r302 =>
(match r302 with
| p290 =>
(iter (g155_l4 a1 is4 p195 p290) p197).bind fun r340 =>
(match r340 with
| p328 =>
if (decide (p290 > p328)) = true then
some (.inr (p195, p328))
else
(idx p195 p328).bind fun y343 =>
(p195[p328.toNat]?).bind fun y345 =>
(idx p195 p290).bind fun y347 =>
(p195[p290.toNat]?).bind fun y349 =>
(idx (p195.set p290.toNat y345) p328).bind fun y351 =>
((p195.set p290.toNat y345)[p328.toNat]?).bind fun y353 =>
some (.inl (((p195.set p290.toNat y345).set p328.toNat y349), (IntKind.i64.wrap (p290 + 1)), (IntKind.i64.wrap (p328 - 1))))))
noncomputable def g155 (a0 : List DLease) (a1 : Int) (a2 : Int) (a3 : Int) (is4 : DLease → DLease → Option Int) : Option (Int × Bool × (List DLease)) :=
(idx a0 a3).bind fun y1 =>
(a0[a3.toNat]?).bind fun y3 =>
(idx a0 a1).bind fun y5 =>
(a0[a1.toNat]?).bind fun y7 =>
(idx (a0.set a1.toNat y3) a3).bind fun y9 =>
((a0.set a1.toNat y3)[a3.toNat]?).bind fun y11 =>
(iter (g155_l0 a0 a1 a2 a3 is4 y3 y7) (IntKind.i64.wrap (a1 + 1))).bind fun r55 =>
(match r55 with
| p41 =>
(iter (g155_l1 a0 a1 a3 is4 y3 y7 p41) (IntKind.i64.wrap (a2 - 1))).bind fun r95 =>
(match r95 with
| p83 =>
if (decide (p41 > p83)) = true then
(idx ((a0.set a1.toNat y3).set a3.toNat y7) a1).bind fun y98 =>
(((a0.set a1.toNat y3).set a3.toNat y7)[a1.toNat]?).bind fun y100 =>
(idx ((a0.set a1.toNat y3).set a3.toNat y7) p83).bind fun y102 =>
(((a0.set a1.toNat y3).set a3.toNat y7)[p83.toNat]?).bind fun y104 =>
(idx (((a0.set a1.toNat y3).set a3.toNat y7).set p83.toNat y100) a1).bind fun y106 =>
((((a0.set a1.toNat y3).set a3.toNat y7).set p83.toNat y100)[a1.toNat]?).bind fun y108 =>
bindv ((((a0.set a1.toNat y3).set a3.toNat y7).set p83.toNat y100).set a1.toNat y104) fun v110 =>
some (p83, true, v110)
else
(idx ((a0.set a1.toNat y3).set a3.toNat y7) p83).bind fun y112 =>
(((a0.set a1.toNat y3).set a3.toNat y7)[p83.toNat]?).bind fun y114 =>
(idx ((a0.set a1.toNat y3).set a3.toNat y7) p41).bind fun y116 =>
(((a0.set a1.toNat y3).set a3.toNat y7)[p41.toNat]?).bind fun y118 =>
(idx (((a0.set a1.toNat y3).set a3.toNat y7).set p41.toNat y114) p83).bind fun y120 =>
((((a0.set a1.toNat y3).set a3.toNat y7).set p41.toNat y114)[p83.toNat]?).bind fun y122 =>
bindv ((((a0.set a1.toNat y3).set a3.toNat y7).set p41.toNat y114).set p83.toNat y118) fun v124 =>
(iter (g155_l2 a1 is4) (v124, (IntKind.i64.wrap (p41 + 1)), (IntKind.i64.wrap (p83 - 1)))).bind fun r355 =>
(match r355 with
| (p264, p265) =>
(idx p264 a1).bind fun y357 =>
(p264[a1.toNat]?).bind fun y359 =>
(idx p264 p265).bind fun y361 =>
(p264[p265.toNat]?).bind fun y363 =>
(idx (p264.set p265.toNat y359) a1).bind fun y365 =>
((p264.set p265.toNat y359)[a1.toNat]?).bind fun y367 =>
some (p265, false, (p264.set p265.toNat y359).set a1.toNat y363))))
noncomputable def g137_j2 (is4 : DLease → DLease → Option Int) (rc137 : (List DLease) → Int → Int → Int → (DLease → DLease → Option Int) → Option (List DLease)) (p63 : Int) (p64 : Int) (p66 : Bool) (p67 : Bool) (p148 : Int) (p158 : Int) (p165 : List DLease) : Option (((List DLease) × Int × Int × Int × Bool × Bool) ⊕ ((List DLease))) :=
(if ((decide (p63 > 0)) == true) = true then idx p165 (IntKind.i64.wrap (p63 - 1)) else some default).bind fun y166 =>
(if ((decide (p63 > 0)) == true) = true then p165[(IntKind.i64.wrap (p63 - 1)).toNat]? else some default).bind fun y168 =>
(if ((decide (p63 > 0)) == true) = true then idx p165 p158 else some default).bind fun y170 =>
(if ((decide (p63 > 0)) == true) = true then p165[p158.toNat]? else some default).bind fun y172 =>
(if ((decide (p63 > 0)) == true) = true then is4 y168 y172 else some default).bind fun r174 =>
if (bif (decide (p63 > 0)) then (!(decide (r174 < 0))) else false) = true then
(g154 p165 p63 p64 p158 is4).bind fun r177 =>
if r177.2.length = p165.length then
some (.inl (r177.2, r177.1, p64, p148, p66, p67))
else none
else
(g155 p165 p63 p64 p158 is4).bind fun r180 =>
if r180.2.2.length = p165.length then
bindv ((decide ((IntKind.i64.wrap (r180.1 - p63)) < (IntKind.i64.wrap (p64 - r180.1))))) fun v183 =>
if v183 = true then
bindv ((decide ((IntKind.i64.wrap (r180.1 - p63)) ≥ (IntKind.i64.wrap (((IntKind.i64.wrap (p64 - p63))).tdiv 8))))) fun v186 =>
(rc137 r180.2.2 p63 r180.1 p148 is4).bind fun r188 =>
if r188.length = r180.2.2.length then
some (.inl (r188, (IntKind.i64.wrap (r180.1 + 1)), p64, p148, v186, r180.2.1))
else none
else
bindv ((decide ((IntKind.i64.wrap (p64 - r180.1)) ≥ (IntKind.i64.wrap (((IntKind.i64.wrap (p64 - p63))).tdiv 8))))) fun v191 =>
(rc137 r180.2.2 (IntKind.i64.wrap (r180.1 + 1)) p64 p148 is4).bind fun r193 =>
if r193.length = r180.2.2.length then
some (.inl (r193, p63, r180.1, p148, v191, r180.2.1))
else none
else none
noncomputable def g137_j1 (is4 : DLease → DLease → Option Int) (rc137 : (List DLease) → Int → Int → Int → (DLease → DLease → Option Int) → Option (List DLease)) (p63 : Int) (p64 : Int) (p66 : Bool) (p67 : Bool) (p148 : Int) (p157 : List DLease) (p158 : Int) (p159 : Int) : Option (((List DLease) × Int × Int × Int × Bool × Bool) ⊕ ((List DLease))) :=
if (bif (bif p66 then p67 else false) then (p159 == 1) else false) = true then
(g153 p157 p63 p64 is4).bind fun r198 =>
if r198.2.length = p157.length then
if r198.1 = true then
some (.inr r198.2)
else
g137_j2 is4 rc137 p63 p64 p66 p67 p148 p158 r198.2
else none
else
g137_j2 is4 rc137 p63 p64 p66 p67 p148 p158 p157
noncomputable def g137_j0 (is4 : DLease → DLease → Option Int) (rc137 : (List DLease) → Int → Int → Int → (DLease → DLease → Option Int) → Option (List DLease)) (p63 : Int) (p64 : Int) (p66 : Bool) (p67 : Bool) (p147 : List DLease) (p148 : Int) : Option (((List DLease) × Int × Int × Int × Bool × Bool) ⊕ ((List DLease))) :=
(g151 p147 p63 p64 is4).bind fun r149 =>
if (r149.2 == 2) = true then
(g152 p147 p63 p64 is4).bind fun r204 =>
if r204.length = p147.length then
bindv (IntKind.i64.wrap ((IntKind.i64.wrap (p64 - 1)) - (IntKind.i64.wrap (r149.1 - p63)))) fun v207 =>
g137_j1 is4 rc137 p63 p64 p66 p67 p148 r204 v207 1
else none
else
g137_j1 is4 rc137 p63 p64 p66 p67 p148 p147 r149.1 r149.2
noncomputable def g137_l0 (is4 : DLease → DLease → Option Int) (rc137 : (List DLease) → Int → Int → Int → (DLease → DLease → Option Int) → Option (List DLease)) (s : (List DLease) × Int × Int × Int × Bool × Bool) : Option (((List DLease) × Int × Int × Int × Bool × Bool) ⊕ ((List DLease))) :=
match s with
| (p62, p63, p64, p65, p66, p67) =>
if (decide ((IntKind.i64.wrap (p64 - p63)) ≤ 12)) = true then
(g148 p62 p63 p64 is4).bind fun r136 =>
if r136.length = p62.length then
some (.inr r136)
else none
else
if (p65 == 0) = true then
(g149 p62 p63 p64 is4).bind fun r140 =>
if r140.length = p62.length then
some (.inr r140)
else none
else
if (!p66) = true then
(g150 p62 p63 p64 is4).bind fun r211 =>
if r211.length = p62.length then
g137_j0 is4 rc137 p63 p64 p66 p67 r211 (IntKind.i64.wrap (p65 - 1))
else none
else
g137_j0 is4 rc137 p63 p64 p66 p67 p62 p65
noncomputable def g137_b (rc137 : (List DLease) → Int → Int → Int → (DLease → DLease → Option Int) → Option (List DLease)) (a0 : List DLease) (a1 : Int) (a2 : Int) (a3 : Int) (is4 : DLease → DLease → Option Int) : Option (List DLease) :=
(iter (g137_l0 is4 rc137) (a0, a1, a2, a3, true, true)).bind fun r214 =>
(match r214 with
| q => some q)
noncomputable def g137 (n : Nat) : (List DLease) → Int → Int → Int → (DLease → DLease → Option Int) → Option (List DLease) := Nat.rec (fun _ _ _ _ _ => none) (fun _ rc => g137_b rc) n
noncomputable def g116 (a0 : List DLease) (is1 : DLease → DLease → Option Int) : Option (List DLease) :=
(g138 (IntKind.u64.wrap (a0.length : Int))).bind fun r1 =>
(g137 fuel a0 0 (a0.length : Int) r1 is1).bind fun r3 =>
if r3.length = a0.length then
some r3
else none
noncomputable def g82_j0 (p21 : Int) (p58 : List DLease) (p59 : List DLease) : Option (((List DLease) × (List DLease) × Int) ⊕ ((List DLease) × (List DLease))) :=
some (.inl (p58, p59, (IntKind.i64.wrap (p21 + 1))))
noncomputable def g82_l0 (a0 : DTable) (a1 : Int) (r1 : DTable) (s : (List DLease) × (List DLease) × Int) : Option (((List DLease) × (List DLease) × Int) ⊕ ((List DLease) × (List DLease))) :=
match s with
| (p19, p20, p21) =>
if (decide (p21 < (r1.list_.length : Int))) = true then
(idx p20 p21).bind fun y62 =>
(p20[p21.toNat]?).bind fun y64 =>
bindv ((bif (!y64.queued) then (decide (y64.until_ ≤ (if a1 > a0.clock then a1 else a0.clock))) else false)) fun v66 =>
if v66 = true then
(idx p20 p21).bind fun y69 =>
(p20[p21.toNat]?).bind fun y71 =>
if (p19.length + ([y64] : List DLease).length) * 32 ≤ 140737488355328 then
g82_j0 p21 (p19 ++ ([y64] : List DLease)) (p20.set p21.toNat (DLease.mk y71.id y71.until_ y71.cap true))
else none
else
g82_j0 p21 p19 p20
else
some (.inr (p19, p20))
noncomputable def g82 (a0 : DTable) (a1 : Int) : Option (DTable × (List Int)) :=
(g112 a0).bind fun r1 =>
(iter (g82_l0 a0 a1 r1) ([], r1.list_, 0)).bind fun r74 =>
(match r74 with
| (p43, p44) =>
(g116 p43 (fun z69_0 z69_1 => g69 z69_0 z69_1)).bind fun r76 =>
if r76.length = p43.length then
(g60 (DTable.mk 0 0 r76)).bind fun r79 =>
some ((DTable.mk (if a1 > a0.clock then a1 else a0.clock) r1.next p44), r79)
else none)
end Go.Ev
