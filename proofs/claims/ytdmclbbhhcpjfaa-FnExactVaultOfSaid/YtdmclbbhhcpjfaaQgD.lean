/- Functions with the answers of the program's, written by a program of ours. -/
import Derived.Test.YtdmclbbhhcpjfaaQvM
set_option linter.all false
set_option maxHeartbeats 4000000
set_option linter.unusedVariables false
set_option maxRecDepth 100000
namespace Go.Ev
structure DLease where
  id : Int
  until_ : Int
  cap : Int
  queued : Bool
  deriving Inhabited, DecidableEq
def okDLease (x : DLease) : Prop := ok64 x.id ∧ ok64 x.until_ ∧ ok64 x.cap ∧ okAny x.queued
def eDLease (x : DLease) : List V := [.int .i64 x.id, .int .i64 x.until_, .int .i64 x.cap, .bool x.queued]
structure DTable where
  clock : Int
  next : Int
  list_ : List DLease
  deriving Inhabited, DecidableEq
def okDTable (x : DTable) : Prop := ok64 x.clock ∧ ok64 x.next ∧ (okL okDLease) x.list_
def eDTable (x : DTable) : List V := [.int .i64 x.clock, .int .i64 x.next, .lst 4 (x.list_.map eDLease)]
structure DIntent where
  lease : Int
  undo : Bool
  deriving Inhabited, DecidableEq
def okDIntent (x : DIntent) : Prop := ok64 x.lease ∧ okAny x.undo
def eDIntent (x : DIntent) : List V := [.int .i64 x.lease, .bool x.undo]
structure DVault where
  table : DTable
  intents : List DIntent
  accounts : List Int
  sealed : Bool
  deriving Inhabited, DecidableEq
def okDVault (x : DVault) : Prop := okDTable x.table ∧ (okL okDIntent) x.intents ∧ (okL ok64) x.accounts ∧ okAny x.sealed
def eDVault (x : DVault) : List V := [.int .i64 x.table.clock, .int .i64 x.table.next, .lst 4 (x.table.list_.map eDLease), .lst 2 (x.intents.map eDIntent), .lst 1 (x.accounts.map eI), .bool x.sealed]
structure DPair where
  key : List UInt8
  value : List UInt8
  deriving Inhabited, DecidableEq
def okDPair (x : DPair) : Prop := okStr x.key ∧ okStr x.value
def eDPair (x : DPair) : List V := [.str x.key, .str x.value]
structure DChange where
  key : List UInt8
  value : List UInt8
  gone : Bool
  deriving Inhabited, DecidableEq
def okDChange (x : DChange) : Prop := okStr x.key ∧ okStr x.value ∧ okAny x.gone
def eDChange (x : DChange) : List V := [.str x.key, .str x.value, .bool x.gone]
noncomputable def g36_l0 (a0 : List Int) (a1 : List Int) (s : Int) : Option ((Int) ⊕ (Unit ⊕ Bool)) :=
match s with
| p8 =>
if (decide (p8 < (a0.length : Int))) = true then
(idx a0 p8).bind fun y17 =>
(idx a1 p8).bind fun y19 =>
if (y17 != y19) = true then
some (.inr (.inr false))
else
some (.inl (IntKind.i64.wrap (p8 + 1)))
else
some (.inr (.inl ()))
noncomputable def g36 (a0 : List Int) (a1 : List Int) : Option Bool :=
if ((a0.length : Int) != (a1.length : Int)) = true then
some false
else
(iter (g36_l0 a0 a1) 0).bind fun r22 =>
(match r22 with
| .inl () =>
some true
| .inr q => some q)
noncomputable def g37_l0  (s : (List Int) × Int × Int) : Option (((List Int) × Int × Int) ⊕ ((List Int) × Int)) :=
match s with
| (p6, p7, p8) =>
if (decide (p8 < (p6.length : Int))) = true then
(idx p6 p8).bind fun y20 =>
(p6[p8.toNat]?).bind fun y22 =>
some (.inl ((p6.set p8.toNat p7), (IntKind.i64.wrap (p7 + 1)), (IntKind.i64.wrap (p8 + 1))))
else
some (.inr (p6, p7))
noncomputable def g37 (a0 : List Int) (a1 : Int) : Option (Int × (List Int)) :=
(iter (g37_l0) (a0, a1, 0)).bind fun r24 =>
(match r24 with
| (p17, p18) =>
some (p18, p17))
noncomputable def g43_l0 (a0 : List Int) (s : (List Int) × Int) : Option (((List Int) × Int) ⊕ ((List Int))) :=
match s with
| (p10, p11) =>
if (decide (p11 < (a0.length : Int))) = true then
(idx a0 p11).bind fun y23 =>
(idx p10 p11).bind fun y25 =>
(p10[p11.toNat]?).bind fun y27 =>
some (.inl ((p10.set p11.toNat y23), (IntKind.i64.wrap (p11 + 1))))
else
some (.inr p10)
noncomputable def g43 (a0 : List Int) : Option (List Int) :=
if 0 ≤ (a0.length : Int) then
if (a0.length : Int) * 8 ≤ 140737488355328 then
(iter (g43_l0 a0) ((List.replicate (a0.length : Int).toNat 0), 0)).bind fun r29 =>
(match r29 with
| p21 =>
some p21)
else none
else none
noncomputable def g107 (a0 : DLease) (a1 : DLease) : Option Bool :=
if (a0.id != a1.id) = true then
some false
else
if (a0.until_ != a1.until_) = true then
some false
else
if (a0.cap != a1.cap) = true then
some false
else
if (!(a0.queued == a1.queued)) = true then
some false
else
some true
noncomputable def g64_l0 (a0 : List DLease) (a1 : List DLease) (s : Int) : Option ((Int) ⊕ (Unit ⊕ Bool)) :=
match s with
| p10 =>
if (decide (p10 < (a0.length : Int))) = true then
(idx a0 p10).bind fun y21 =>
(idx a1 p10).bind fun y23 =>
(g107 y21 y23).bind fun r25 =>
if (!r25) = true then
some (.inr (.inr false))
else
some (.inl (IntKind.i64.wrap (p10 + 1)))
else
some (.inr (.inl ()))
noncomputable def g64 (a0 : List DLease) (a1 : List DLease) : Option Bool :=
if ((a0.length : Int) != (a1.length : Int)) = true then
some false
else
(iter (g64_l0 a0 a1) 0).bind fun r28 =>
(match r28 with
| .inl () =>
some true
| .inr q => some q)
noncomputable def g21 (a0 : DTable) (a1 : DTable) : Option Bool :=
if (a0.clock != a1.clock) = true then
some false
else
if (a0.next != a1.next) = true then
some false
else
(g64 a0.list_ a1.list_).bind fun r3 =>
if (!r3) = true then
some false
else
some true
noncomputable def g131 (a0 : DIntent) (a1 : DIntent) : Option Bool :=
if (a0.lease != a1.lease) = true then
some false
else
if (!(a0.undo == a1.undo)) = true then
some false
else
some true
noncomputable def g99_l0 (a0 : List DIntent) (a1 : List DIntent) (s : Int) : Option ((Int) ⊕ (Unit ⊕ Bool)) :=
match s with
| p10 =>
if (decide (p10 < (a0.length : Int))) = true then
(idx a0 p10).bind fun y21 =>
(idx a1 p10).bind fun y23 =>
(g131 y21 y23).bind fun r25 =>
if (!r25) = true then
some (.inr (.inr false))
else
some (.inl (IntKind.i64.wrap (p10 + 1)))
else
some (.inr (.inl ()))
noncomputable def g99 (a0 : List DIntent) (a1 : List DIntent) : Option Bool :=
if ((a0.length : Int) != (a1.length : Int)) = true then
some false
else
(iter (g99_l0 a0 a1) 0).bind fun r28 =>
(match r28 with
| .inl () =>
some true
| .inr q => some q)
noncomputable def g49 (a0 : DVault) (a1 : DVault) : Option Bool :=
(g21 a0.table a1.table).bind fun r1 =>
if (!r1) = true then
some false
else
(g99 a0.intents a1.intents).bind fun r4 =>
if (!r4) = true then
some false
else
(g36 a0.accounts a1.accounts).bind fun r7 =>
if (!r7) = true then
some false
else
if (!(a0.sealed == a1.sealed)) = true then
some false
else
some true
noncomputable def g314 (a0 : DPair) (a1 : DPair) : Option Bool :=
if (!(a0.key == a1.key)) = true then
some false
else
if (!(a0.value == a1.value)) = true then
some false
else
some true
noncomputable def g251_l0 (a0 : List DPair) (a1 : List DPair) (s : Int) : Option ((Int) ⊕ (Unit ⊕ Bool)) :=
match s with
| p10 =>
if (decide (p10 < (a0.length : Int))) = true then
(idx a0 p10).bind fun y21 =>
(idx a1 p10).bind fun y23 =>
(g314 y21 y23).bind fun r25 =>
if (!r25) = true then
some (.inr (.inr false))
else
some (.inl (IntKind.i64.wrap (p10 + 1)))
else
some (.inr (.inl ()))
noncomputable def g251 (a0 : List DPair) (a1 : List DPair) : Option Bool :=
if ((a0.length : Int) != (a1.length : Int)) = true then
some false
else
(iter (g251_l0 a0 a1) 0).bind fun r28 =>
(match r28 with
| .inl () =>
some true
| .inr q => some q)
noncomputable def g72_l0  (s : (List DLease) × Int × Int) : Option (((List DLease) × Int × Int) ⊕ ((List DLease) × Int)) :=
match s with
| (p26, p27, p28) =>
if (decide (p28 < (p26.length : Int))) = true then
(idx p26 p28).bind fun y60 =>
(p26[p28.toNat]?).bind fun y62 =>
(idx (p26.set p28.toNat (DLease.mk p27 y62.until_ y62.cap y62.queued)) p28).bind fun y64 =>
((p26.set p28.toNat (DLease.mk p27 y62.until_ y62.cap y62.queued))[p28.toNat]?).bind fun y66 =>
bindv ((p26.set p28.toNat (DLease.mk p27 y62.until_ y62.cap y62.queued)).set p28.toNat (DLease.mk y66.id (IntKind.i64.wrap (p27 + 1)) y66.cap y66.queued)) fun v68 =>
(idx v68 p28).bind fun y70 =>
(v68[p28.toNat]?).bind fun y72 =>
bindv (v68.set p28.toNat (DLease.mk y72.id y72.until_ (IntKind.i64.wrap ((IntKind.i64.wrap (p27 + 1)) + 1)) y72.queued)) fun v74 =>
bindv (IntKind.i64.wrap ((IntKind.i64.wrap ((IntKind.i64.wrap (p27 + 1)) + 1)) + 1)) fun v76 =>
(idx v74 p28).bind fun y78 =>
(v74[p28.toNat]?).bind fun y80 =>
bindv (v74.set p28.toNat (DLease.mk y80.id y80.until_ y80.cap (((v76).tmod 3) == 0))) fun v82 =>
some (.inl (v82, (IntKind.i64.wrap (v76 + 1)), (IntKind.i64.wrap (p28 + 1))))
else
some (.inr (p26, p27))
noncomputable def g72 (a0 : List DLease) (a1 : Int) : Option (Int × (List DLease)) :=
(iter (g72_l0) (a0, a1, 0)).bind fun r84 =>
(match r84 with
| (p57, p58) =>
some (p58, p57))
noncomputable def g26 (a0 : DTable) (a1 : Int) : Option (Int × (List DLease)) :=
(g72 a0.list_ a1).bind fun r1 =>
if r1.2.length = a0.list_.length then
some (r1.1, r1.2)
else none
noncomputable def g315_l0  (s : (List DIntent) × Int × Int) : Option (((List DIntent) × Int × Int) ⊕ ((List DIntent) × Int)) :=
match s with
| (p12, p13, p14) =>
if (decide (p14 < (p12.length : Int))) = true then
(idx p12 p14).bind fun y32 =>
(p12[p14.toNat]?).bind fun y34 =>
(idx (p12.set p14.toNat (DIntent.mk p13 y34.undo)) p14).bind fun y36 =>
((p12.set p14.toNat (DIntent.mk p13 y34.undo))[p14.toNat]?).bind fun y38 =>
bindv ((p12.set p14.toNat (DIntent.mk p13 y34.undo)).set p14.toNat (DIntent.mk y38.lease ((((IntKind.i64.wrap (p13 + 1))).tmod 3) == 0))) fun v40 =>
some (.inl (v40, (IntKind.i64.wrap ((IntKind.i64.wrap (p13 + 1)) + 1)), (IntKind.i64.wrap (p14 + 1))))
else
some (.inr (p12, p13))
noncomputable def g315 (a0 : List DIntent) (a1 : Int) : Option (Int × (List DIntent)) :=
(iter (g315_l0) (a0, a1, 0)).bind fun r42 =>
(match r42 with
| (p29, p30) =>
some (p30, p29))
noncomputable def g252 (a0 : DVault) (a1 : Int) : Option (Int × (List DLease) × (List DIntent) × (List Int)) :=
(g26 a0.table a1).bind fun r1 =>
if r1.2.length = a0.table.list_.length then
(g315 a0.intents r1.1).bind fun r4 =>
if r4.2.length = a0.intents.length then
(g37 a0.accounts r4.1).bind fun r7 =>
if r7.2.length = a0.accounts.length then
some (r7.1, r1.2, r4.2, r7.2)
else none
else none
else none
noncomputable def g316_l0  (s : Int × (List UInt8)) : Option ((Int × (List UInt8)) ⊕ ((List UInt8))) :=
match s with
| (p6, p7) =>
if (decide (p6 > 0)) = true then
if ([b8 (IntKind.i64.wrap (48 + ((p6).tmod 10)))] : List UInt8).length + p7.length ≤ 9223372036854775807 then
some (.inl ((IntKind.i64.wrap ((p6).tdiv 10)), (([b8 (IntKind.i64.wrap (48 + ((p6).tmod 10)))] : List UInt8) ++ p7)))
else none
else
some (.inr p7)
noncomputable def g316 (a0 : Int) : Option (List UInt8) :=
if (decide (a0 ≤ 0)) = true then
some ([109, 48] : List UInt8)
else
(iter (g316_l0) (a0, ([] : List UInt8))).bind fun r15 =>
(match r15 with
| p12 =>
if ([109] : List UInt8).length + p12.length ≤ 9223372036854775807 then
some (([109] : List UInt8) ++ p12)
else none)
noncomputable def g253_l0  (s : (List DPair) × Int × Int) : Option (((List DPair) × Int × Int) ⊕ ((List DPair) × Int)) :=
match s with
| (p16, p17, p18) =>
if (decide (p18 < (p16.length : Int))) = true then
(g316 p17).bind fun r40 =>
(idx p16 p18).bind fun y42 =>
(p16[p18.toNat]?).bind fun y44 =>
(g316 (IntKind.i64.wrap (p17 + 1))).bind fun r46 =>
(idx (p16.set p18.toNat (DPair.mk r40 y44.value)) p18).bind fun y48 =>
((p16.set p18.toNat (DPair.mk r40 y44.value))[p18.toNat]?).bind fun y50 =>
bindv ((p16.set p18.toNat (DPair.mk r40 y44.value)).set p18.toNat (DPair.mk y50.key r46)) fun v52 =>
some (.inl (v52, (IntKind.i64.wrap ((IntKind.i64.wrap (p17 + 1)) + 1)), (IntKind.i64.wrap (p18 + 1))))
else
some (.inr (p16, p17))
noncomputable def g253 (a0 : List DPair) (a1 : Int) : Option (Int × (List DPair)) :=
(iter (g253_l0) (a0, a1, 0)).bind fun r54 =>
(match r54 with
| (p37, p38) =>
some (p38, p37))
noncomputable def g317 (a0 : DPair) (a1 : Int) : Option Int :=
if (decide ((IntKind.i64.wrap (a1 - (a0.key.length : Int))) < 0)) = true then
some (-1)
else
bindv (IntKind.i64.wrap ((IntKind.i64.wrap (a1 - (a0.key.length : Int))) - (a0.value.length : Int))) fun v2 =>
if (decide (v2 < 0)) = true then
some (-1)
else
some v2
noncomputable def g255_l0 (a0 : List DPair) (s : Int × Int) : Option ((Int × Int) ⊕ (Int ⊕ Int)) :=
match s with
| (p8, p9) =>
if (decide (p9 < (a0.length : Int))) = true then
(idx a0 p9).bind fun y20 =>
(g317 y20 p8).bind fun r22 =>
if (decide (r22 < 0)) = true then
some (.inr (.inr (-1)))
else
some (.inl (r22, (IntKind.i64.wrap (p9 + 1))))
else
some (.inr (.inl p8))
noncomputable def g255 (a0 : List DPair) (a1 : Int) : Option Int :=
if (decide ((IntKind.i64.wrap (a1 - (a0.length : Int))) < 0)) = true then
some (-1)
else
(iter (g255_l0 a0) ((IntKind.i64.wrap (a1 - (a0.length : Int))), 0)).bind fun r25 =>
(match r25 with
| .inl p18 =>
some p18
| .inr q => some q)
noncomputable def g56 (a0 : Int) (a1 : Int) (a2 : Int) : Option Bool :=
some (bif (decide (a0 ≥ a1)) then (decide (a0 ≤ a2)) else false)
noncomputable def g18_l0 (a0 : DTable) (s : Int) : Option ((Int) ⊕ (Unit ⊕ Bool)) :=
match s with
| p16 =>
if (decide (p16 < (a0.list_.length : Int))) = true then
(idx a0.list_ p16).bind fun y29 =>
(g56 y29.id 1 (IntKind.i64.wrap (a0.next - 1))).bind fun r31 =>
(if (((!r31) == false) && ((decide (p16 > 0)) == true)) = true then idx a0.list_ (IntKind.i64.wrap (p16 - 1)) else some default).bind fun y33 =>
bindv ((bif (bif (bif (bif (!r31) then true else (bif (decide (p16 > 0)) then (decide (y33.id ≥ y29.id)) else false)) then true else (decide (y29.until_ < 0))) then true else (decide (y29.until_ > y29.cap))) then true else (bif (!y29.queued) then (decide (y29.until_ ≤ a0.clock)) else false))) fun v35 =>
if v35 = true then
some (.inr (.inr false))
else
some (.inl (IntKind.i64.wrap (p16 + 1)))
else
some (.inr (.inl ()))
noncomputable def g18 (a0 : DTable) : Option Bool :=
(if ((decide (a0.clock < 0)) == false) = true then g56 a0.next 1 1000000 else some default).bind fun r1 =>
bindv ((bif (bif (decide (a0.clock < 0)) then true else (!r1)) then true else (decide ((a0.list_.length : Int) > 40)))) fun v3 =>
if v3 = true then
some false
else
(iter (g18_l0 a0) 0).bind fun r38 =>
(match r38 with
| .inl () =>
some true
| .inr q => some q)
noncomputable def g85_l0 (a0 : List Int) (a1 : Int) (s : Int) : Option ((Int) ⊕ (Unit ⊕ Bool)) :=
match s with
| p13 =>
if (decide (p13 < (a0.length : Int))) = true then
(idx a0 p13).bind fun y28 =>
(g56 y28 1 (IntKind.i64.wrap (a1 - 1))).bind fun r30 =>
(if (((!r30) == false) && ((decide (p13 > 0)) == true)) = true then idx a0 (IntKind.i64.wrap (p13 - 1)) else some default).bind fun y32 =>
(if (((!r30) == false) && ((decide (p13 > 0)) == true)) = true then idx a0 p13 else some default).bind fun y34 =>
bindv ((bif (!r30) then true else (bif (decide (p13 > 0)) then (decide (y32 ≥ y34)) else false))) fun v36 =>
if v36 = true then
some (.inr (.inr false))
else
some (.inl (IntKind.i64.wrap (p13 + 1)))
else
some (.inr (.inl ()))
noncomputable def g85 (a0 : List Int) (a1 : Int) : Option Bool :=
(iter (g85_l0 a0 a1) 0).bind fun r39 =>
(match r39 with
| .inl () =>
some true
| .inr q => some q)
noncomputable def g92_l0 (a0 : DTable) (a1 : Int) (s : Int) : Option ((Int) ⊕ (Unit ⊕ Int)) :=
match s with
| p5 =>
if (decide (p5 < (a0.list_.length : Int))) = true then
(idx a0.list_ p5).bind fun y12 =>
if (y12.id == a1) = true then
some (.inr (.inr p5))
else
some (.inl (IntKind.i64.wrap (p5 + 1)))
else
some (.inr (.inl ()))
noncomputable def g92 (a0 : DTable) (a1 : Int) : Option Int :=
(iter (g92_l0 a0 a1) 0).bind fun r15 =>
(match r15 with
| .inl () =>
some (-1)
| .inr q => some q)
noncomputable def g124_l0 (a0 : DVault) (a1 : Int) (s : Int) : Option ((Int) ⊕ (Unit ⊕ Int)) :=
match s with
| p5 =>
if (decide (p5 < (a0.intents.length : Int))) = true then
(idx a0.intents p5).bind fun y12 =>
if (y12.lease == a1) = true then
some (.inr (.inr p5))
else
some (.inl (IntKind.i64.wrap (p5 + 1)))
else
some (.inr (.inl ()))
noncomputable def g124 (a0 : DVault) (a1 : Int) : Option Int :=
(iter (g124_l0 a0 a1) 0).bind fun r15 =>
(match r15 with
| .inl () =>
some (-1)
| .inr q => some q)
noncomputable def g93_l0 (a0 : DVault) (s : Int) : Option ((Int) ⊕ (Unit ⊕ Int)) :=
match s with
| p13 =>
if (decide (p13 < (a0.accounts.length : Int))) = true then
(idx a0.accounts p13).bind fun y28 =>
(g92 a0.table y28).bind fun r30 =>
(if ((decide (r30 < 0)) == true) = true then idx a0.accounts p13 else some default).bind fun y32 =>
(if ((decide (r30 < 0)) == true) = true then g124 a0 y32 else some default).bind fun r34 =>
if (bif (decide (r30 < 0)) then (decide (r34 < 0)) else false) = true then
(idx a0.accounts p13).bind fun y37 =>
some (.inr (.inr y37))
else
some (.inl (IntKind.i64.wrap (p13 + 1)))
else
some (.inr (.inl ()))
noncomputable def g93 (a0 : DVault) : Option Int :=
(iter (g93_l0 a0) 0).bind fun r39 =>
(match r39 with
| .inl () =>
some 0
| .inr q => some q)
noncomputable def g46_l0 (a0 : DVault) (s : Int) : Option ((Int) ⊕ (Unit ⊕ Bool)) :=
match s with
| p20 =>
if (decide (p20 < (a0.intents.length : Int))) = true then
(idx a0.intents p20).bind fun y35 =>
(g56 y35.lease 1 (IntKind.i64.wrap (a0.table.next - 1))).bind fun r37 =>
(if (((!r37) == false) && ((decide (p20 > 0)) == true)) = true then idx a0.intents (IntKind.i64.wrap (p20 - 1)) else some default).bind fun y39 =>
(if ((bif (!r37) then true else (bif (decide (p20 > 0)) then (decide (y39.lease ≥ y35.lease)) else false)) == false) = true then g92 a0.table y35.lease else some default).bind fun r41 =>
bindv ((bif (bif (!r37) then true else (bif (decide (p20 > 0)) then (decide (y39.lease ≥ y35.lease)) else false)) then true else (decide (r41 ≥ 0)))) fun v43 =>
if v43 = true then
some (.inr (.inr false))
else
some (.inl (IntKind.i64.wrap (p20 + 1)))
else
some (.inr (.inl ()))
noncomputable def g46 (a0 : DVault) : Option Bool :=
(g18 a0.table).bind fun r1 =>
(if ((bif (bif (!r1) then true else (decide ((a0.intents.length : Int) > 40))) then true else (decide ((a0.accounts.length : Int) > 80))) == false) = true then g85 a0.accounts a0.table.next else some default).bind fun r3 =>
bindv ((bif (bif (bif (!r1) then true else (decide ((a0.intents.length : Int) > 40))) then true else (decide ((a0.accounts.length : Int) > 80))) then true else (!r3))) fun v5 =>
if v5 = true then
some false
else
(iter (g46_l0 a0) 0).bind fun r46 =>
(match r46 with
| .inl () =>
(g93 a0).bind fun r48 =>
some (r48 == 0)
| .inr q => some q)
noncomputable def g360 (a0 : DChange) : Option Bool :=
bindv ((bif (bif (bif (decide ((a0.key.length : Int) > 0)) then (decide ((a0.key.length : Int) ≤ 60)) else false) then (decide ((a0.value.length : Int) ≤ 400)) else false) then (bif (!a0.gone) then true else (a0.value == ([] : List UInt8))) else false)) fun v1 =>
some v1
noncomputable def g318_l0 (a0 : List DPair) (s : Int) : Option ((Int) ⊕ (Unit ⊕ Bool)) :=
match s with
| p14 =>
if (decide (p14 < (a0.length : Int))) = true then
(idx a0 p14).bind fun y29 =>
(g360 (DChange.mk y29.key y29.value false)).bind fun r31 =>
(if (((!r31) == false) && ((decide (p14 > 0)) == true)) = true then idx a0 (IntKind.i64.wrap (p14 - 1)) else some default).bind fun y33 =>
(if (((!r31) == false) && ((decide (p14 > 0)) == true)) = true then idx a0 p14 else some default).bind fun y35 =>
bindv ((bif (!r31) then true else (bif (decide (p14 > 0)) then (!(Op.bytesLess y33.key y35.key)) else false))) fun v37 =>
if v37 = true then
some (.inr (.inr false))
else
some (.inl (IntKind.i64.wrap (p14 + 1)))
else
some (.inr (.inl ()))
noncomputable def g318 (a0 : List DPair) : Option Bool :=
if (decide ((a0.length : Int) > 100)) = true then
some false
else
(iter (g318_l0 a0) 0).bind fun r40 =>
(match r40 with
| .inl () =>
some true
| .inr q => some q)
noncomputable def g361_j0 (p61 : Int) (p78 : Int) : Option ((Int × Int) ⊕ (Int)) :=
some (.inl (p78, (IntKind.i64.wrap (p61 + 1))))
noncomputable def g361_l1 (a0 : List UInt8) (p25 : Int) (s : Int × Int) : Option ((Int × Int) ⊕ (Int)) :=
match s with
| (p60, p61) =>
if (decide (p61 < 16)) = true then
(idx ([48, 49, 50, 51, 52, 53, 54, 55, 56, 57, 97, 98, 99, 100, 101, 102] : List UInt8) p61).bind fun y80 =>
(idx a0 p25).bind fun y82 =>
if (((y80).toNat : Int) == ((y82).toNat : Int)) = true then
g361_j0 p61 p61
else
g361_j0 p61 p60
else
some (.inr p60)
noncomputable def g361_l0 (a0 : List UInt8) (s : Int × Int) : Option ((Int × Int) ⊕ (Int ⊕ (Int × Bool))) :=
match s with
| (p24, p25) =>
if (decide (p25 < (a0.length : Int))) = true then
(iter (g361_l1 a0 p25) ((-1), 0)).bind fun r85 =>
(match r85 with
| p71 =>
bindv ((bif (decide (p71 < 0)) then true else (bif (p25 == 0) then (decide (p71 > 7)) else false))) fun v87 =>
if v87 = true then
some (.inr (.inr (0, false)))
else
some (.inl ((IntKind.i64.wrap ((IntKind.i64.wrap (p24 * 16)) + p71)), (IntKind.i64.wrap (p25 + 1)))))
else
some (.inr (.inl p24))
noncomputable def g361 (a0 : List UInt8) : Option (Int × Bool) :=
(iter (g361_l0 a0) (0, 0)).bind fun r90 =>
(match r90 with
| .inl p51 =>
some (p51, ((a0.length : Int) == 16))
| .inr q => some q)
noncomputable def g319 (a0 : DVault) (a1 : DPair) : Option (DVault × Bool) :=
(if (((a1.key.length : Int) == 23) == true) = true then slc a1.key 0 7 else some default).bind fun s1 =>
bindv ((bif ((a1.key.length : Int) == 23) then (s1 == ([105, 110, 116, 101, 110, 116, 47] : List UInt8)) else false)) fun v3 =>
if v3 = true then
(slc a1.key 7 (a1.key.length : Int)).bind fun s6 =>
(g361 s6).bind fun r8 =>
if (a0.intents.length + ([(DIntent.mk r8.1 (a1.value == ([117, 110, 100, 111] : List UInt8)))] : List DIntent).length) * 16 ≤ 140737488355328 then
bindv (a0.intents ++ ([(DIntent.mk r8.1 (a1.value == ([117, 110, 100, 111] : List UInt8)))] : List DIntent)) fun v11 =>
bindv ((bif r8.2 then (bif (a1.value == ([117, 110, 100, 111] : List UInt8)) then true else (a1.value == ([98, 101, 103, 117, 110] : List UInt8))) else false)) fun v13 =>
some ((DVault.mk a0.table v11 a0.accounts a0.sealed), v13)
else none
else
(if (((a1.key.length : Int) == 22) == true) = true then slc a1.key 0 6 else some default).bind fun s15 =>
bindv ((bif (bif ((a1.key.length : Int) == 22) then (s15 == ([108, 101, 97, 115, 101, 47] : List UInt8)) else false) then (decide ((a1.value.length : Int) > 32)) else false)) fun v17 =>
if v17 = true then
(slc a1.key 6 (a1.key.length : Int)).bind fun s20 =>
(g361 s20).bind fun r22 =>
(slc a1.value 0 16).bind fun s24 =>
(g361 s24).bind fun r26 =>
(slc a1.value 16 32).bind fun s28 =>
(g361 s28).bind fun r30 =>
(slc a1.value 32 (a1.value.length : Int)).bind fun s32 =>
if (a0.table.list_.length + ([(DLease.mk r22.1 r26.1 r30.1 (s32 == ([113, 117, 101, 117, 101, 100] : List UInt8)))] : List DLease).length) * 32 ≤ 140737488355328 then
bindv (a0.table.list_ ++ ([(DLease.mk r22.1 r26.1 r30.1 (s32 == ([113, 117, 101, 117, 101, 100] : List UInt8)))] : List DLease)) fun v35 =>
(if ((bif (bif r22.2 then r26.2 else false) then r30.2 else false) == true) = true then slc a1.value 32 (a1.value.length : Int) else some default).bind fun s37 =>
(if (((bif (bif r22.2 then r26.2 else false) then r30.2 else false) == true) && ((s37 == ([113, 117, 101, 117, 101, 100] : List UInt8)) == false)) = true then slc a1.value 32 (a1.value.length : Int) else some default).bind fun s39 =>
bindv ((bif (bif (bif r22.2 then r26.2 else false) then r30.2 else false) then (bif (s37 == ([113, 117, 101, 117, 101, 100] : List UInt8)) then true else (s39 == ([108, 105, 118, 101] : List UInt8))) else false)) fun v41 =>
some ((DVault.mk (DTable.mk a0.table.clock a0.table.next v35) a0.intents a0.accounts a0.sealed), v41)
else none
else
bindv ((bif (a1.key == ([118, 97, 117, 108, 116] : List UInt8)) then (decide ((a1.value.length : Int) > 32)) else false)) fun v43 =>
if v43 = true then
(slc a1.value 0 16).bind fun s46 =>
(g361 s46).bind fun r48 =>
(slc a1.value 16 32).bind fun s50 =>
(g361 s50).bind fun r52 =>
(slc a1.value 32 (a1.value.length : Int)).bind fun s54 =>
(if ((bif r48.2 then r52.2 else false) == true) = true then slc a1.value 32 (a1.value.length : Int) else some default).bind fun s56 =>
(if (((bif r48.2 then r52.2 else false) == true) && ((s56 == ([115, 101, 97, 108, 101, 100] : List UInt8)) == false)) = true then slc a1.value 32 (a1.value.length : Int) else some default).bind fun s58 =>
bindv ((bif (bif r48.2 then r52.2 else false) then (bif (s56 == ([115, 101, 97, 108, 101, 100] : List UInt8)) then true else (s58 == ([111, 112, 101, 110] : List UInt8))) else false)) fun v60 =>
some ((DVault.mk (DTable.mk r48.1 r52.1 a0.table.list_) a0.intents a0.accounts (s54 == ([115, 101, 97, 108, 101, 100] : List UInt8))), v60)
else
some (a0, false)
noncomputable def g256_l0 (a0 : List DPair) (s : Int × Int × Int × (List DLease) × (List DIntent) × (List Int) × Bool) : Option ((Int × Int × Int × (List DLease) × (List DIntent) × (List Int) × Bool) ⊕ ((Int × Int × (List DLease) × (List DIntent) × (List Int) × Bool) ⊕ (DVault × Int))) :=
match s with
| (p15, p16, p17, p18, p19, p20, p21) =>
if (decide (p15 < (a0.length : Int))) = true then
(idx a0 p15).bind fun y43 =>
(g319 (DVault.mk (DTable.mk p16 p17 p18) p19 p20 p21) y43).bind fun r45 =>
if (!r45.2) = true then
some (.inr (.inr ((DVault.mk (DTable.mk 0 0 ([] : List DLease)) ([] : List DIntent) ([] : List Int) false), 3)))
else
some (.inl ((IntKind.i64.wrap (p15 + 1)), r45.1.table.clock, r45.1.table.next, r45.1.table.list_, r45.1.intents, r45.1.accounts, r45.1.sealed))
else
some (.inr (.inl (p16, p17, p18, p19, p20, p21)))
noncomputable def g256 (a0 : List DPair) (a1 : List Int) : Option (DVault × Int) :=
bindv ((bif (decide ((a0.length : Int) > 4096)) then true else (decide ((a1.length : Int) > 4096)))) fun v1 =>
if v1 = true then
some ((DVault.mk (DTable.mk 0 0 ([] : List DLease)) ([] : List DIntent) ([] : List Int) false), 2)
else
(g318 a0).bind fun r4 =>
if (!r4) = true then
some ((DVault.mk (DTable.mk 0 0 ([] : List DLease)) ([] : List DIntent) ([] : List Int) false), 1)
else
if (([] : List Int).length + a1.length) * 8 ≤ 140737488355328 then
(iter (g256_l0 a0) (0, 0, 0, ([] : List DLease), ([] : List DIntent), (([] : List Int) ++ a1), false)).bind fun r49 =>
(match r49 with
| .inl (p36, p37, p38, p39, p40, p41) =>
(g46 (DVault.mk (DTable.mk p36 p37 p38) p39 p40 p41)).bind fun r51 =>
if (!r51) = true then
some ((DVault.mk (DTable.mk 0 0 ([] : List DLease)) ([] : List DIntent) ([] : List Int) false), 13)
else
some ((DVault.mk (DTable.mk p36 p37 p38) p39 p40 p41), 0)
| .inr q => some q)
else none
noncomputable def g320 (a0 : DPair) : Option DPair :=
some a0
noncomputable def g257_l0 (a0 : List DPair) (s : (List DPair) × Int) : Option (((List DPair) × Int) ⊕ ((List DPair))) :=
match s with
| (p14, p15) =>
if (decide (p15 < (a0.length : Int))) = true then
(idx a0 p15).bind fun y29 =>
(g320 y29).bind fun r31 =>
(idx p14 p15).bind fun y33 =>
(p14[p15.toNat]?).bind fun y35 =>
some (.inl ((p14.set p15.toNat r31), (IntKind.i64.wrap (p15 + 1))))
else
some (.inr p14)
noncomputable def g257 (a0 : List DPair) : Option (List DPair) :=
if 0 ≤ (a0.length : Int) then
if (a0.length : Int) * 32 ≤ 140737488355328 then
bindv (List.replicate (a0.length : Int).toNat (DPair.mk ([] : List UInt8) ([] : List UInt8))) fun v3 =>
(iter (g257_l0 a0) (v3, 0)).bind fun r37 =>
(match r37 with
| p27 =>
some p27)
else none
else none
noncomputable def g63 (a0 : Int) (a1 : Int) (a2 : Int) : Option Bool :=
some (bif (decide (a1 ≤ a0)) then (decide (a0 ≤ a2)) else false)
noncomputable def g58 (a0 : Int) : Option Bool :=
(g63 a0 1 1000000).bind fun r1 =>
some r1
noncomputable def g59_l0 (a0 : List Int) (a1 : Int) (a2 : Int) (s : Int) : Option ((Int) ⊕ (Unit ⊕ Bool)) :=
match s with
| p11 =>
if (decide (p11 < (a0.length : Int))) = true then
(idx a0 p11).bind fun y24 =>
(g63 y24 a1 a2).bind fun r26 =>
(if (((!r26) == false) && ((decide (p11 > 0)) == true)) = true then idx a0 (IntKind.i64.wrap (p11 - 1)) else some default).bind fun y28 =>
bindv ((bif (!r26) then true else (bif (decide (p11 > 0)) then (decide (y28 ≥ y24)) else false))) fun v30 =>
if v30 = true then
some (.inr (.inr false))
else
some (.inl (IntKind.i64.wrap (p11 + 1)))
else
some (.inr (.inl ()))
noncomputable def g59 (a0 : List Int) (a1 : Int) (a2 : Int) : Option Bool :=
(iter (g59_l0 a0 a1 a2) 0).bind fun r33 =>
(match r33 with
| .inl () =>
some true
| .inr q => some q)
noncomputable def g60_l0 (a0 : DTable) (s : (List Int) × Int) : Option (((List Int) × Int) ⊕ ((List Int))) :=
match s with
| (p5, p6) =>
if (decide (p6 < (a0.list_.length : Int))) = true then
(idx a0.list_ p6).bind fun y15 =>
if (p5.length + ([y15.id] : List Int).length) * 8 ≤ 140737488355328 then
some (.inl ((p5 ++ ([y15.id] : List Int)), (IntKind.i64.wrap (p6 + 1))))
else none
else
some (.inr p5)
noncomputable def g60 (a0 : DTable) : Option (List Int) :=
(iter (g60_l0 a0) ([], 0)).bind fun r18 =>
(match r18 with
| p13 =>
some p13)
noncomputable def g108_l0 (a0 : List DLease) (is1 : DLease → Option Bool) (s : Int) : Option ((Int) ⊕ (Unit ⊕ Int)) :=
match s with
| p7 =>
if (decide (p7 < (a0.length : Int))) = true then
(idx a0 p7).bind fun y16 =>
(is1 y16).bind fun r18 =>
if r18 = true then
some (.inr (.inr p7))
else
some (.inl (IntKind.i64.wrap (p7 + 1)))
else
some (.inr (.inl ()))
noncomputable def g108 (a0 : List DLease) (is1 : DLease → Option Bool) : Option Int :=
(iter (g108_l0 a0 is1) 0).bind fun r21 =>
(match r21 with
| .inl () =>
some (-1)
| .inr q => some q)
noncomputable def g105 (a0 : List DLease) (is1 : DLease → Option Bool) : Option Bool :=
(g108 a0 is1).bind fun r1 =>
some (decide (r1 ≥ 0))
noncomputable def g106 (a0 : DLease) (is1 : DLease → Option Bool) : Option Bool :=
(is1 a0).bind fun r1 =>
some (!r1)
noncomputable def g61 (a0 : List DLease) (is1 : DLease → Option Bool) : Option Bool :=
(g105 a0 (fun z106_0 => g106 z106_0 is1)).bind fun r1 =>
some (!r1)
noncomputable def g62 (a0 : DLease) (a1 : DTable) : Option Bool :=
(g63 a0.until_ 0 a0.cap).bind fun r1 =>
bindv ((bif r1 then (bif a0.queued then true else (decide (a0.until_ > a1.clock))) else false)) fun v3 =>
some v3
noncomputable def g20 (a0 : DTable) : Option Bool :=
(if ((decide (a0.clock ≥ 0)) == true) = true then g58 a0.next else some default).bind fun r1 =>
(if ((bif (bif (decide (a0.clock ≥ 0)) then r1 else false) then (decide ((a0.list_.length : Int) ≤ 40)) else false) == true) = true then g60 a0 else some default).bind fun r3 =>
(if ((bif (bif (decide (a0.clock ≥ 0)) then r1 else false) then (decide ((a0.list_.length : Int) ≤ 40)) else false) == true) = true then g59 r3 1 (IntKind.i64.wrap (a0.next - 1)) else some default).bind fun r5 =>
(if ((bif (bif (bif (decide (a0.clock ≥ 0)) then r1 else false) then (decide ((a0.list_.length : Int) ≤ 40)) else false) then r5 else false) == true) = true then g61 a0.list_ (fun z62_0 => g62 z62_0 a0) else some default).bind fun r7 =>
bindv ((bif (bif (bif (bif (decide (a0.clock ≥ 0)) then r1 else false) then (decide ((a0.list_.length : Int) ≤ 40)) else false) then r5 else false) then r7 else false)) fun v9 =>
some v9
noncomputable def g95_l0 (a0 : List DIntent) (s : (List Int) × Int) : Option (((List Int) × Int) ⊕ ((List Int))) :=
match s with
| (p5, p6) =>
if (decide (p6 < (a0.length : Int))) = true then
(idx a0 p6).bind fun y15 =>
if (p5.length + ([y15.lease] : List Int).length) * 8 ≤ 140737488355328 then
some (.inl ((p5 ++ ([y15.lease] : List Int)), (IntKind.i64.wrap (p6 + 1))))
else none
else
some (.inr p5)
noncomputable def g95 (a0 : List DIntent) : Option (List Int) :=
(iter (g95_l0 a0) ([], 0)).bind fun r18 =>
(match r18 with
| p13 =>
some p13)
def g144 (a0 : List Int) (a1 : Int) : Option (List Int) := if 0 ≤ a1 ∧ (a0.length : Int) + a1 ≤ 17592186044416 then some a0 else none
noncomputable def g126_j0 (p7 : Int) (p20 : Int) : Option ((Int × Int) ⊕ (Int)) :=
some (.inl (p20, (IntKind.i64.wrap (p7 + 1))))
noncomputable def g126_l0 (a0 : List (List Int)) (s : Int × Int) : Option ((Int × Int) ⊕ (Int)) :=
match s with
| (p6, p7) =>
if (decide (p7 < (a0.length : Int))) = true then
(idx a0 p7).bind fun y22 =>
if (decide ((IntKind.i64.wrap (p6 + (y22.length : Int))) < 0)) = true then
none
else
g126_j0 p7 (IntKind.i64.wrap (p6 + (y22.length : Int)))
else
some (.inr p6)
noncomputable def g126_l1 (a0 : List (List Int)) (s : (List Int) × Int) : Option (((List Int) × Int) ⊕ ((List Int))) :=
match s with
| (p33, p34) =>
if (decide (p34 < (a0.length : Int))) = true then
(idx a0 p34).bind fun y43 =>
if (p33.length + y43.length) * 8 ≤ 140737488355328 then
some (.inl ((p33 ++ y43), (IntKind.i64.wrap (p34 + 1))))
else none
else
some (.inr p33)
noncomputable def g126 (a0 : List (List Int)) : Option (List Int) :=
(iter (g126_l0 a0) (0, 0)).bind fun r25 =>
(match r25 with
| p15 =>
(g144 ([] : List Int) p15).bind fun r27 =>
(iter (g126_l1 a0) (r27, 0)).bind fun r46 =>
(match r46 with
| p41 =>
some p41))
noncomputable def g127_l0 (a0 : List Int) (is1 : Int → Option Bool) (s : Int) : Option ((Int) ⊕ (Unit ⊕ Int)) :=
match s with
| p7 =>
if (decide (p7 < (a0.length : Int))) = true then
(idx a0 p7).bind fun y16 =>
(is1 y16).bind fun r18 =>
if r18 = true then
some (.inr (.inr p7))
else
some (.inl (IntKind.i64.wrap (p7 + 1)))
else
some (.inr (.inl ()))
noncomputable def g127 (a0 : List Int) (is1 : Int → Option Bool) : Option Int :=
(iter (g127_l0 a0 is1) 0).bind fun r21 =>
(match r21 with
| .inl () =>
some (-1)
| .inr q => some q)
noncomputable def g128 (a0 : Int) (a1 : List (Int × Bool)) : Option Bool :=
some (!(kvGet a1 a0))
noncomputable def g96_l0 (r5 : (List Int)) (s : Int × (List (Int × Bool))) : Option ((Int × (List (Int × Bool))) ⊕ ((List (Int × Bool)))) :=
match s with
| (p12, p13) =>
if (decide (p12 < (r5.length : Int))) = true then
(idx r5 p12).bind fun y23 =>
(r5[p12.toNat]?).bind fun y25 =>
some (.inl ((IntKind.i64.wrap (p12 + 1)), (kvPut p13 y25 true)))
else
some (.inr p13)
noncomputable def g96 (a0 : DVault) : Option (Int × Bool) :=
(g60 a0.table).bind fun r1 =>
(g95 a0.intents).bind fun r3 =>
(g126 ([r1, r3] : List (List Int))).bind fun r5 =>
(iter (g96_l0 r5) (0, ([] : List (Int × Bool)))).bind fun r27 =>
(match r27 with
| p21 =>
(g127 a0.accounts (fun z128_0 => g128 z128_0 p21)).bind fun r29 =>
if (decide (r29 < 0)) = true then
some (0, false)
else
(idx a0.accounts r29).bind fun y32 =>
some (y32, true))
noncomputable def g129 (a0 : List Int) (is1 : Int → Option Bool) : Option Bool :=
(g127 a0 is1).bind fun r1 =>
some (decide (r1 ≥ 0))
noncomputable def g130 (a0 : Int) (is1 : Int → Option Bool) : Option Bool :=
(is1 a0).bind fun r1 =>
some (!r1)
noncomputable def g97 (a0 : List Int) (is1 : Int → Option Bool) : Option Bool :=
(g129 a0 (fun z130_0 => g130 z130_0 is1)).bind fun r1 =>
some (!r1)
noncomputable def g113_l0 (a0 : List DLease) (a1 : Int) (is2 : DLease → Int → Option Int) (s : Int × Int) : Option ((Int × Int) ⊕ (Int)) :=
match s with
| (p9, p10) =>
if (decide (p9 < p10)) = true then
bindv (IntKind.i64.wrap (ishr .u64 (IntKind.u64.wrap (IntKind.i64.wrap (p9 + p10))) 1)) fun v23 =>
(idx a0 v23).bind fun y25 =>
(is2 y25 a1).bind fun r27 =>
if (decide (r27 < 0)) = true then
some (.inl ((IntKind.i64.wrap (v23 + 1)), p10))
else
some (.inl (p9, v23))
else
some (.inr p9)
noncomputable def g113 (a0 : List DLease) (a1 : Int) (is2 : DLease → Int → Option Int) : Option (Int × Bool) :=
(iter (g113_l0 a0 a1 is2) (0, (a0.length : Int))).bind fun r30 =>
(match r30 with
| p21 =>
(if ((decide (p21 < (a0.length : Int))) == true) = true then idx a0 p21 else some default).bind fun y32 =>
(if ((decide (p21 < (a0.length : Int))) == true) = true then is2 y32 a1 else some default).bind fun r34 =>
some (p21, (bif (decide (p21 < (a0.length : Int))) then (r34 == 0) else false)))
noncomputable def g136 (a0 : Int) : Option Bool :=
some (a0 != a0)
noncomputable def g110 (a0 : Int) (a1 : Int) : Option Int :=
(g136 a0).bind fun r1 =>
(g136 a1).bind fun r3 =>
if r1 = true then
if r3 = true then
some 0
else
some (-1)
else
if r3 = true then
some 1
else
if (decide (a0 < a1)) = true then
some (-1)
else
if (decide (a0 > a1)) = true then
some 1
else
some 0
noncomputable def g114 (a0 : DLease) (a1 : Int) : Option Int :=
(g110 a0.id a1).bind fun r1 =>
some r1
noncomputable def g77 (a0 : DTable) (a1 : Int) : Option (Int × Bool) :=
(g113 a0.list_ a1 (fun z114_0 z114_1 => g114 z114_0 z114_1)).bind fun r1 =>
some (r1.1, r1.2)
noncomputable def g98 (a0 : Int) (a1 : DVault) : Option Bool :=
(g77 a1.table a0).bind fun r1 =>
some (!r1.2)
noncomputable def g48 (a0 : DVault) : Option Bool :=
(g20 a0.table).bind fun r1 =>
(if ((bif (!r1) then true else (decide ((a0.intents.length : Int) > 40))) == false) = true then g95 a0.intents else some default).bind fun r3 =>
(if ((bif (!r1) then true else (decide ((a0.intents.length : Int) > 40))) == false) = true then g59 r3 1 (IntKind.i64.wrap (a0.table.next - 1)) else some default).bind fun r5 =>
(if ((bif (bif (bif (!r1) then true else (decide ((a0.intents.length : Int) > 40))) then true else (!r5)) then true else (decide ((a0.accounts.length : Int) > 80))) == false) = true then g59 a0.accounts 1 (IntKind.i64.wrap (a0.table.next - 1)) else some default).bind fun r7 =>
bindv ((bif (bif (bif (bif (!r1) then true else (decide ((a0.intents.length : Int) > 40))) then true else (!r5)) then true else (decide ((a0.accounts.length : Int) > 80))) then true else (!r7))) fun v9 =>
if v9 = true then
some false
else
(g96 a0).bind fun r12 =>
(if ((!r12.2) == true) = true then g95 a0.intents else some default).bind fun r14 =>
(if ((!r12.2) == true) = true then g97 r14 (fun z98_0 => g98 z98_0 a0) else some default).bind fun r16 =>
some (bif (!r12.2) then r16 else false)
noncomputable def g87 (a0 : List Int) : Option Bool :=
some (decide ((a0.length : Int) ≤ 4096))
def g120 (a0 : List Int) : Option (List Int) := if ([] : List Int).length + a0.length ≤ 17592186044416 then some a0 else none
noncomputable def g321 (a0 : List DPair) : Option Bool :=
some (decide ((a0.length : Int) ≤ 4096))
noncomputable def g362 (a0 : List UInt8) : Option Bool :=
(g63 (a0.length : Int) 1 60).bind fun r1 =>
some r1
noncomputable def g322_l0 (a0 : List DPair) (s : Int) : Option ((Int) ⊕ (Unit ⊕ Bool)) :=
match s with
| p11 =>
if (decide (p11 < (a0.length : Int))) = true then
(idx a0 p11).bind fun y24 =>
(g362 y24.key).bind fun r26 =>
(if (((bif (!r26) then true else (decide ((y24.value.length : Int) > 400))) == false) && ((decide (p11 > 0)) == true)) = true then idx a0 (IntKind.i64.wrap (p11 - 1)) else some default).bind fun y28 =>
bindv ((bif (bif (!r26) then true else (decide ((y24.value.length : Int) > 400))) then true else (bif (decide (p11 > 0)) then (!(Op.bytesLess y28.key y24.key)) else false))) fun v30 =>
if v30 = true then
some (.inr (.inr false))
else
some (.inl (IntKind.i64.wrap (p11 + 1)))
else
some (.inr (.inl ()))
noncomputable def g322 (a0 : List DPair) : Option Bool :=
(iter (g322_l0 a0) 0).bind fun r33 =>
(match r33 with
| .inl () =>
some (decide ((a0.length : Int) ≤ 100))
| .inr q => some q)
noncomputable def g375 (a0 : List UInt8) (a1 : List UInt8) : Option Bool :=
(if ((decide ((a0.length : Int) ≥ (a1.length : Int))) == true) = true then slc a0 0 (a1.length : Int) else some default).bind fun s1 =>
bindv ((bif (decide ((a0.length : Int) ≥ (a1.length : Int))) then (s1 == a1) else false)) fun v3 =>
some v3
noncomputable def g372 (a0 : List UInt8) (a1 : List UInt8) : Option ((List UInt8) × Bool) :=
(g375 a0 a1).bind fun r1 =>
if (!r1) = true then
some (a0, false)
else
(slc a0 (a1.length : Int) (a0.length : Int)).bind fun s4 =>
some (s4, true)
noncomputable def g363 (a0 : List UInt8) (a1 : List UInt8) : Option ((List UInt8) × Bool) :=
(g372 a0 a1).bind fun r1 =>
some (r1.1, r1.2)
noncomputable def g370 (a0 : List UInt8) (a1 : UInt8) : Option Int :=
some (byteAt a0 ((a1).toNat : Int))
noncomputable def g341 (a0 : List UInt8) (a1 : UInt8) : Option Int :=
(g370 a0 a1).bind fun r1 =>
some r1
noncomputable def g364_l0 (s6 : List UInt8) (s : Int × Int) : Option ((Int × Int) ⊕ (Int ⊕ (Int × (List UInt8) × Bool))) :=
match s with
| (p14, p15) =>
if (decide (p15 < (s6.length : Int))) = true then
(idx s6 p15).bind fun y26 =>
(g341 ([48, 49, 50, 51, 52, 53, 54, 55, 56, 57, 97, 98, 99, 100, 101, 102] : List UInt8) y26).bind fun r28 =>
if (decide (r28 < 0)) = true then
some (.inr (.inr (0, ([] : List UInt8), false)))
else
some (.inl ((ior .i64 (ishl .i64 p14 4) r28), (IntKind.i64.wrap (p15 + 1))))
else
some (.inr (.inl p14))
noncomputable def g364 (a0 : List UInt8) : Option (Int × (List UInt8) × Bool) :=
(if ((decide ((a0.length : Int) < 16)) == false) = true then idx a0 0 else some default).bind fun y1 =>
bindv ((bif (decide ((a0.length : Int) < 16)) then true else (decide (((y1).toNat : Int) > 55)))) fun v3 =>
if v3 = true then
some (0, ([] : List UInt8), false)
else
(slc a0 0 16).bind fun s6 =>
(iter (g364_l0 s6) (0, 0)).bind fun r31 =>
(match r31 with
| .inl p24 =>
(slc a0 16 (a0.length : Int)).bind fun s33 =>
some (p24, s33, true)
| .inr q => some q)
noncomputable def g365 (a0 : List UInt8) (a1 : List UInt8) (a2 : List UInt8) : Option (Int × Int × Bool × Bool) :=
(g364 a0).bind fun r1 =>
(g364 r1.2.1).bind fun r3 =>
bindv ((bif (bif r1.2.2 then r3.2.2 else false) then (bif (r3.2.1 == a1) then true else (r3.2.1 == a2)) else false)) fun v5 =>
some (r1.1, r3.1, (r3.2.1 == a1), v5)
noncomputable def g323 (a0 : DVault) (a1 : DPair) : Option (Bool × DVault) :=
(g363 a1.key ([105, 110, 116, 101, 110, 116, 47] : List UInt8)).bind fun r1 =>
if r1.2 = true then
(g364 r1.1).bind fun r4 =>
if (a0.intents.length + ([(DIntent.mk r4.1 (a1.value == ([117, 110, 100, 111] : List UInt8)))] : List DIntent).length) * 16 ≤ 140737488355328 then
bindv (a0.intents ++ ([(DIntent.mk r4.1 (a1.value == ([117, 110, 100, 111] : List UInt8)))] : List DIntent)) fun v7 =>
bindv ((bif (bif r4.2.2 then (r4.2.1 == ([] : List UInt8)) else false) then (bif (a1.value == ([117, 110, 100, 111] : List UInt8)) then true else (a1.value == ([98, 101, 103, 117, 110] : List UInt8))) else false)) fun v9 =>
some (v9, (DVault.mk a0.table v7 a0.accounts a0.sealed))
else none
else
(g363 a1.key ([108, 101, 97, 115, 101, 47] : List UInt8)).bind fun r11 =>
if r11.2 = true then
(g364 r11.1).bind fun r14 =>
(g365 a1.value ([113, 117, 101, 117, 101, 100] : List UInt8) ([108, 105, 118, 101] : List UInt8)).bind fun r16 =>
if (a0.table.list_.length + ([(DLease.mk r14.1 r16.1 r16.2.1 r16.2.2.1)] : List DLease).length) * 32 ≤ 140737488355328 then
bindv (a0.table.list_ ++ ([(DLease.mk r14.1 r16.1 r16.2.1 r16.2.2.1)] : List DLease)) fun v19 =>
bindv ((bif (bif r14.2.2 then (r14.2.1 == ([] : List UInt8)) else false) then r16.2.2.2 else false)) fun v21 =>
some (v21, (DVault.mk (DTable.mk a0.table.clock a0.table.next v19) a0.intents a0.accounts a0.sealed))
else none
else
(g365 a1.value ([115, 101, 97, 108, 101, 100] : List UInt8) ([111, 112, 101, 110] : List UInt8)).bind fun r23 =>
bindv ((bif (a1.key == ([118, 97, 117, 108, 116] : List UInt8)) then r23.2.2.2 else false)) fun v25 =>
some (v25, (DVault.mk (DTable.mk r23.1 r23.2.1 a0.table.list_) a0.intents a0.accounts r23.2.2.1))
noncomputable def g258_l0 (a0 : List DPair) (s : Int × Int × Int × (List DLease) × (List DIntent) × (List Int) × Bool) : Option ((Int × Int × Int × (List DLease) × (List DIntent) × (List Int) × Bool) ⊕ ((Int × Int × (List DLease) × (List DIntent) × (List Int) × Bool) ⊕ (DVault × Int))) :=
match s with
| (p17, p18, p19, p20, p21, p22, p23) =>
if (decide (p17 < (a0.length : Int))) = true then
(idx a0 p17).bind fun y44 =>
(g323 (DVault.mk (DTable.mk p18 p19 p20) p21 p22 p23) y44).bind fun r46 =>
if (!r46.1) = true then
some (.inr (.inr ((DVault.mk (DTable.mk 0 0 ([] : List DLease)) ([] : List DIntent) ([] : List Int) false), 3)))
else
some (.inl ((IntKind.i64.wrap (p17 + 1)), r46.2.table.clock, r46.2.table.next, r46.2.table.list_, r46.2.intents, r46.2.accounts, r46.2.sealed))
else
some (.inr (.inl (p18, p19, p20, p21, p22, p23)))
noncomputable def g258 (a0 : List DPair) (a1 : List Int) : Option (DVault × Int) :=
(g321 a0).bind fun r1 =>
(if ((!r1) == false) = true then g87 a1 else some default).bind fun r3 =>
if (bif (!r1) then true else (!r3)) = true then
some ((DVault.mk (DTable.mk 0 0 ([] : List DLease)) ([] : List DIntent) ([] : List Int) false), 2)
else
(g322 a0).bind fun r6 =>
if (!r6) = true then
some ((DVault.mk (DTable.mk 0 0 ([] : List DLease)) ([] : List DIntent) ([] : List Int) false), 1)
else
(g120 a1).bind fun r9 =>
(iter (g258_l0 a0) (0, 0, 0, ([] : List DLease), ([] : List DIntent), r9, false)).bind fun r49 =>
(match r49 with
| .inl (p37, p38, p39, p40, p41, p42) =>
(g48 (DVault.mk (DTable.mk p37 p38 p39) p40 p41 p42)).bind fun r51 =>
if (!r51) = true then
some ((DVault.mk (DTable.mk 0 0 ([] : List DLease)) ([] : List DIntent) ([] : List Int) false), 13)
else
some ((DVault.mk (DTable.mk p37 p38 p39) p40 p41 p42), 0)
| .inr q => some q)
noncomputable def g73_l0 (a0 : List DLease) (s : Int × Int) : Option ((Int × Int) ⊕ (Int ⊕ Int)) :=
match s with
| (p16, p17) =>
if (decide (p17 < (a0.length : Int))) = true then
(idx a0 p17).bind fun y37 =>
if (y37.id != p16) = true then
some (.inr (.inr (-1)))
else
(idx a0 p17).bind fun y40 =>
if (y40.until_ != (IntKind.i64.wrap (p16 + 1))) = true then
some (.inr (.inr (-1)))
else
(idx a0 p17).bind fun y43 =>
if (y43.cap != (IntKind.i64.wrap ((IntKind.i64.wrap (p16 + 1)) + 1))) = true then
some (.inr (.inr (-1)))
else
bindv (IntKind.i64.wrap ((IntKind.i64.wrap ((IntKind.i64.wrap (p16 + 1)) + 1)) + 1)) fun v46 =>
(idx a0 p17).bind fun y48 =>
if (!(y48.queued == (((v46).tmod 3) == 0))) = true then
some (.inr (.inr (-1)))
else
some (.inl ((IntKind.i64.wrap (v46 + 1)), (IntKind.i64.wrap (p17 + 1))))
else
some (.inr (.inl p16))
noncomputable def g73 (a0 : List DLease) (a1 : Int) : Option Int :=
(iter (g73_l0 a0) (a1, 0)).bind fun r51 =>
(match r51 with
| .inl p35 =>
some p35
| .inr q => some q)
noncomputable def g27 (a0 : DTable) (a1 : Int) : Option Int :=
(g73 a0.list_ a1).bind fun r1 =>
if (decide (r1 < 0)) = true then
some (-1)
else
some r1
noncomputable def g38_l0 (a0 : List Int) (s : Int × Int) : Option ((Int × Int) ⊕ (Int ⊕ Int)) :=
match s with
| (p5, p6) =>
if (decide (p6 < (a0.length : Int))) = true then
(idx a0 p6).bind fun y15 =>
if (y15 != p5) = true then
some (.inr (.inr (-1)))
else
some (.inl ((IntKind.i64.wrap (p5 + 1)), (IntKind.i64.wrap (p6 + 1))))
else
some (.inr (.inl p5))
noncomputable def g38 (a0 : List Int) (a1 : Int) : Option Int :=
(iter (g38_l0 a0) (a1, 0)).bind fun r18 =>
(match r18 with
| .inl p13 =>
some p13
| .inr q => some q)
noncomputable def g324_l0 (a0 : List DIntent) (s : Int × Int) : Option ((Int × Int) ⊕ (Int ⊕ Int)) :=
match s with
| (p8, p9) =>
if (decide (p9 < (a0.length : Int))) = true then
(idx a0 p9).bind fun y21 =>
if (y21.lease != p8) = true then
some (.inr (.inr (-1)))
else
(idx a0 p9).bind fun y24 =>
if (!(y24.undo == ((((IntKind.i64.wrap (p8 + 1))).tmod 3) == 0))) = true then
some (.inr (.inr (-1)))
else
some (.inl ((IntKind.i64.wrap ((IntKind.i64.wrap (p8 + 1)) + 1)), (IntKind.i64.wrap (p9 + 1))))
else
some (.inr (.inl p8))
noncomputable def g324 (a0 : List DIntent) (a1 : Int) : Option Int :=
(iter (g324_l0 a0) (a1, 0)).bind fun r27 =>
(match r27 with
| .inl p19 =>
some p19
| .inr q => some q)
noncomputable def g259 (a0 : DVault) (a1 : Int) : Option Int :=
(g27 a0.table a1).bind fun r1 =>
if (decide (r1 < 0)) = true then
some (-1)
else
(g324 a0.intents r1).bind fun r4 =>
if (decide (r4 < 0)) = true then
some (-1)
else
(g38 a0.accounts r4).bind fun r7 =>
if (decide (r7 < 0)) = true then
some (-1)
else
some r7
noncomputable def g210 (a0 : List DPair) (a1 : List Int) : Option Bool :=
if (decide ((a1.length : Int) > 1048576)) = true then
some true
else
(g255 a0 1048576).bind fun r2 =>
if (decide (r2 < 0)) = true then
some true
else
(g257 a0).bind fun r5 =>
(g43 a1).bind fun r7 =>
(g256 r5 r7).bind fun r9 =>
(g257 a0).bind fun r11 =>
(g43 a1).bind fun r13 =>
(g258 r11 r13).bind fun r15 =>
(g49 r15.1 r9.1).bind fun r17 =>
if (bif (!r17) then true else (r15.2 != r9.2)) = true then
some false
else
(g257 a0).bind fun r20 =>
(g251 r11 r20).bind fun r22 =>
if (!r22) = true then
some false
else
(g43 a1).bind fun r25 =>
(g36 r13 r25).bind fun r27 =>
if (!r27) = true then
some false
else
(g253 r11 1).bind fun r30 =>
if r30.2.length = r11.length then
(g37 r13 r30.1).bind fun r33 =>
if r33.2.length = r13.length then
(if ((decide (r33.1 < 0)) == false) = true then g49 r15.1 r9.1 else some default).bind fun r36 =>
bindv ((bif (bif (decide (r33.1 < 0)) then true else (!r36)) then true else (r15.2 != r9.2))) fun v38 =>
if v38 = true then
some false
else
(g252 r15.1 1).bind fun r41 =>
if r41.2.1.length = r15.1.table.list_.length then
if r41.2.2.1.length = r15.1.intents.length then
if r41.2.2.2.length = r15.1.accounts.length then
(g259 (DVault.mk (DTable.mk r15.1.table.clock r15.1.table.next r41.2.1) r41.2.2.1 r41.2.2.2 r15.1.sealed) 1).bind fun r46 =>
if (decide (r46 < 0)) = true then
some false
else
if (r46 != r41.1) = true then
some false
else
(g257 a0).bind fun r50 =>
(g43 a1).bind fun r52 =>
(g258 r50 r52).bind fun r54 =>
(g49 r54.1 r9.1).bind fun r56 =>
if (bif (!r56) then true else (r54.2 != r9.2)) = true then
some false
else
(g259 (DVault.mk (DTable.mk r15.1.table.clock r15.1.table.next r41.2.1) r41.2.2.1 r41.2.2.2 r15.1.sealed) 1).bind fun r59 =>
if (decide (r59 < 0)) = true then
some false
else
if (r59 != r41.1) = true then
some false
else
some true
else none
else none
else none
else none
else none
noncomputable def g53 (a0 : Int) (a1 : Int) : Option Int :=
if (decide (a0 > (IntKind.i64.wrap (9223372036854775807 - a1)))) = true then
some 9223372036854775807
else
some (IntKind.i64.wrap (a0 + a1))
noncomputable def g15 (a0 : Int) (a1 : Int) : Option Int :=
if (bif (decide (a0 < 0)) then true else (decide (a1 < 0))) = true then
some 0
else
(g53 a0 a1).bind fun r2 =>
some r2
noncomputable def g54 (a0 : Int) (a1 : Int) : Option Int :=
if (decide (a0 > (IntKind.i64.wrap (9223372036854775807 - a1)))) = true then
some 9223372036854775807
else
some (IntKind.i64.wrap (a0 + a1))
noncomputable def g16 (a0 : Int) (a1 : Int) : Option Int :=
if (bif (decide (a0 < 0)) then true else (decide (a1 < 0))) = true then
some 0
else
(g54 a0 a1).bind fun r2 =>
some r2
noncomputable def g3 (a0 : Int) (a1 : Int) : Option Bool :=
(g15 a0 a1).bind fun r1 =>
(g16 a0 a1).bind fun r3 =>
if (r3 != r1) = true then
some false
else
some true
noncomputable def g55 (a0 : List DLease) (a1 : Int) : Option Int :=
if (decide ((IntKind.i64.wrap (a1 - (a0.length : Int))) < 0)) = true then
some (-1)
else
some (IntKind.i64.wrap (a1 - (a0.length : Int)))
noncomputable def g17 (a0 : DTable) (a1 : Int) : Option Int :=
(g55 a0.list_ a1).bind fun r1 =>
if (decide (r1 < 0)) = true then
some (-1)
else
some r1
noncomputable def g104 (a0 : DLease) : Option DLease :=
some a0
noncomputable def g57_l0 (a0 : List DLease) (s : (List DLease) × Int) : Option (((List DLease) × Int) ⊕ ((List DLease))) :=
match s with
| (p12, p13) =>
if (decide (p13 < (a0.length : Int))) = true then
(idx a0 p13).bind fun y27 =>
(g104 y27).bind fun r29 =>
(idx p12 p13).bind fun y31 =>
(p12[p13.toNat]?).bind fun y33 =>
some (.inl ((p12.set p13.toNat r29), (IntKind.i64.wrap (p13 + 1))))
else
some (.inr p12)
noncomputable def g57 (a0 : List DLease) : Option (List DLease) :=
if 0 ≤ (a0.length : Int) then
if (a0.length : Int) * 32 ≤ 140737488355328 then
(iter (g57_l0 a0) ((List.replicate (a0.length : Int).toNat (DLease.mk 0 0 0 false)), 0)).bind fun r35 =>
(match r35 with
| p25 =>
some p25)
else none
else none
noncomputable def g19 (a0 : DTable) : Option DTable :=
(g57 a0.list_).bind fun r1 =>
some (DTable.mk a0.clock a0.next r1)
noncomputable def g4 (a0 : DTable) : Option Bool :=
(g17 a0 1048576).bind fun r1 =>
if (decide (r1 < 0)) = true then
some true
else
(g19 a0).bind fun r4 =>
(g18 r4).bind fun r6 =>
(g19 a0).bind fun r8 =>
(g20 r8).bind fun r10 =>
if (!(r10 == r6)) = true then
some false
else
(g19 a0).bind fun r13 =>
(g21 r8 r13).bind fun r15 =>
if (!r15) = true then
some false
else
some true
noncomputable def g86_l0 (a0 : List Int) (a1 : Int) (s : (List Int) × Int) : Option (((List Int) × Int) ⊕ ((List Int))) :=
match s with
| (p10, p11) =>
(if ((decide (p11 < (a0.length : Int))) == true) = true then idx a0 p11 else some default).bind fun y23 =>
bindv ((bif (decide (p11 < (a0.length : Int))) then (decide (y23 < a1)) else false)) fun v25 =>
if v25 = true then
(idx a0 p11).bind fun y28 =>
if (p10.length + ([y28] : List Int).length) * 8 ≤ 140737488355328 then
some (.inl ((p10 ++ ([y28] : List Int)), (IntKind.i64.wrap (p11 + 1))))
else none
else
some (.inr p10)
noncomputable def g86_j1 (a0 : List Int) (a3 : Int) (p35 : List Int) (p41 : Int) : Option ((List Int) × Int) :=
(slc a0 p41 (a0.length : Int)).bind fun s42 =>
if (p35.length + s42.length) * 8 ≤ 140737488355328 then
if (a3 == 2) = true then
some (p35 ++ s42, 15)
else
some (p35 ++ s42, 0)
else none
noncomputable def g86_j0 (a0 : List Int) (a1 : Int) (a3 : Int) (p22 : List Int) (p35 : List Int) : Option ((List Int) × Int) :=
(if ((decide ((p22.length : Int) < (a0.length : Int))) == true) = true then idx a0 (p22.length : Int) else some default).bind fun y36 =>
bindv ((bif (decide ((p22.length : Int) < (a0.length : Int))) then (y36 == a1) else false)) fun v38 =>
if v38 = true then
g86_j1 a0 a3 p35 (IntKind.i64.wrap ((p22.length : Int) + 1))
else
g86_j1 a0 a3 p35 (p22.length : Int)
noncomputable def g86 (a0 : List Int) (a1 : Int) (a2 : Bool) (a3 : Int) : Option ((List Int) × Int) :=
if (a3 == 1) = true then
some (a0, 13)
else
(iter (g86_l0 a0 a1) (([] : List Int), 0)).bind fun r31 =>
(match r31 with
| p22 =>
if a2 = true then
if (p22.length + ([a1] : List Int).length) * 8 ≤ 140737488355328 then
g86_j0 a0 a1 a3 p22 (p22 ++ ([a1] : List Int))
else none
else
g86_j0 a0 a1 a3 p22 p22)
noncomputable def g42 (a0 : List Int) (a1 : Int) (a2 : Bool) (a3 : Int) : Option ((List Int) × Int) :=
if (decide ((a0.length : Int) > 4096)) = true then
some (([] : List Int), 2)
else
(g85 a0 1000001).bind fun r2 =>
(if ((!r2) == false) = true then g56 a1 1 1000000 else some default).bind fun r4 =>
if (bif (!r2) then true else (!r4)) = true then
some (([] : List Int), 1)
else
(g56 a3 0 2).bind fun r7 =>
if (!r7) = true then
some (([] : List Int), 4)
else
(g86 a0 a1 a2 a3).bind fun r10 =>
if (([] : List Int).length + r10.1.length) * 8 ≤ 140737488355328 then
some (([] : List Int) ++ r10.1, r10.2)
else none
noncomputable def g88 (a0 : Int) : Option Bool :=
(g63 a0 0 2).bind fun r1 =>
some r1
noncomputable def g140 (a0 : Int) (a1 : Int) : Option Bool :=
(g136 a0).bind fun r1 =>
(if (r1 == true) = true then g136 a1 else some default).bind fun r3 =>
bindv ((bif (bif r1 then (!r3) else false) then true else (decide (a0 < a1)))) fun v5 =>
some v5
noncomputable def g141 (a0 : Int) : Option Bool :=
some (a0 != a0)
noncomputable def g121_l0 (a0 : List Int) (a1 : Int) (s : Int × Int) : Option ((Int × Int) ⊕ (Int)) :=
match s with
| (p9, p10) =>
if (decide (p9 < p10)) = true then
bindv (IntKind.i64.wrap (ishr .u64 (IntKind.u64.wrap (IntKind.i64.wrap (p9 + p10))) 1)) fun v23 =>
(idx a0 v23).bind fun y25 =>
(g140 y25 a1).bind fun r27 =>
if r27 = true then
some (.inl ((IntKind.i64.wrap (v23 + 1)), p10))
else
some (.inl (p9, v23))
else
some (.inr p9)
noncomputable def g121 (a0 : List Int) (a1 : Int) : Option (Int × Bool) :=
(iter (g121_l0 a0 a1) (0, (a0.length : Int))).bind fun r30 =>
(match r30 with
| p21 =>
(if ((decide (p21 < (a0.length : Int))) == true) = true then idx a0 p21 else some default).bind fun y32 =>
(if (((decide (p21 < (a0.length : Int))) == true) && ((y32 == a1) == false)) = true then idx a0 p21 else some default).bind fun y34 =>
(if (((decide (p21 < (a0.length : Int))) == true) && ((y32 == a1) == false)) = true then g141 y34 else some default).bind fun r36 =>
(if ((((decide (p21 < (a0.length : Int))) == true) && ((y32 == a1) == false)) && (r36 == true)) = true then g141 a1 else some default).bind fun r38 =>
bindv ((bif (decide (p21 < (a0.length : Int))) then (bif (y32 == a1) then true else (bif r36 then r38 else false)) else false)) fun v40 =>
some (p21, v40))
def g122 (a0 : List Int) (a1 : Int) (a2 : List Int) : Option ((List Int) × (List Int)) := if (0 ≤ a1 ∧ a1 ≤ (a0.length : Int)) ∧ 0 < a2.length ∧ a0.length + a2.length ≤ 17592186044416 then some (a0.take a1.toNat ++ a2 ++ a0.drop a1.toNat, a2) else none
def g123 (a0 : List Int) (a1 : Int) (a2 : Int) : Option (List Int) := if (0 ≤ a1 ∧ a1 ≤ a2 ∧ a2 ≤ (a0.length : Int)) ∧ a0.length ≤ 17592186044416 then some (a0.take a1.toNat ++ a0.drop a2.toNat) else none
noncomputable def g89_j0 (a3 : Int) (p13 : List Int) : Option ((List Int) × Int) :=
if (a3 == 2) = true then
some (p13, 15)
else
some (p13, 0)
noncomputable def g89 (a0 : List Int) (a1 : Int) (a2 : Bool) (a3 : Int) : Option ((List Int) × Int) :=
(g120 a0).bind fun r1 =>
if (a3 == 1) = true then
some (r1, 13)
else
(g121 r1 a1).bind fun r4 =>
if (bif a2 then (!r4.2) else false) = true then
(g122 r1 r4.1 ([a1] : List Int)).bind fun r17 =>
if r17.2.length = ([a1] : List Int).length then
g89_j0 a3 r17.1
else none
else
if (bif (!a2) then r4.2 else false) = true then
(g123 r1 r4.1 (IntKind.i64.wrap (r4.1 + 1))).bind fun r21 =>
g89_j0 a3 r21
else
g89_j0 a3 r1
noncomputable def g44 (a0 : List Int) (a1 : Int) (a2 : Bool) (a3 : Int) : Option ((List Int) × Int) :=
(g87 a0).bind fun r1 =>
if (!r1) = true then
some ([], 2)
else
(g59 a0 1 1000000).bind fun r4 =>
(if ((!r4) == false) = true then g58 a1 else some default).bind fun r6 =>
if (bif (!r4) then true else (!r6)) = true then
some ([], 1)
else
(g88 a3).bind fun r9 =>
if (!r9) = true then
some ([], 4)
else
(g89 a0 a1 a2 a3).bind fun r12 =>
some (r12.1, r12.2)
noncomputable def g12 (a0 : List Int) (a1 : Int) (a2 : Bool) (a3 : Int) : Option Bool :=
if (decide ((a0.length : Int) > 1048576)) = true then
some true
else
(g43 a0).bind fun r2 =>
(g42 r2 a1 a2 a3).bind fun r4 =>
(g43 a0).bind fun r6 =>
(g44 r6 a1 a2 a3).bind fun r8 =>
(g36 r8.1 r4.1).bind fun r10 =>
if (bif (!r10) then true else (r8.2 != r4.2)) = true then
some false
else
(g43 a0).bind fun r13 =>
(g36 r6 r13).bind fun r15 =>
if (!r15) = true then
some false
else
(g37 r6 1).bind fun r18 =>
if r18.2.length = r6.length then
(if ((decide (r18.1 < 0)) == false) = true then g36 r8.1 r4.1 else some default).bind fun r21 =>
bindv ((bif (bif (decide (r18.1 < 0)) then true else (!r21)) then true else (r8.2 != r4.2))) fun v23 =>
if v23 = true then
some false
else
(g37 r8.1 1).bind fun r26 =>
if r26.2.length = r8.1.length then
(g38 r26.2 1).bind fun r29 =>
if (decide (r29 < 0)) = true then
some false
else
if (r29 != r26.1) = true then
some false
else
(g43 a0).bind fun r33 =>
(g44 r33 a1 a2 a3).bind fun r35 =>
(g36 r35.1 r4.1).bind fun r37 =>
if (bif (!r37) then true else (r35.2 != r4.2)) = true then
some false
else
(g38 r26.2 1).bind fun r40 =>
if (decide (r40 < 0)) = true then
some false
else
if (r40 != r26.1) = true then
some false
else
some true
else none
else none
noncomputable def g90 (a0 : List DIntent) (a1 : Int) : Option Int :=
if (decide ((IntKind.i64.wrap (a1 - (a0.length : Int))) < 0)) = true then
some (-1)
else
some (IntKind.i64.wrap (a1 - (a0.length : Int)))
noncomputable def g91 (a0 : List Int) (a1 : Int) : Option Int :=
if (decide ((IntKind.i64.wrap (a1 - (a0.length : Int))) < 0)) = true then
some (-1)
else
some (IntKind.i64.wrap (a1 - (a0.length : Int)))
noncomputable def g45 (a0 : DVault) (a1 : Int) : Option Int :=
(g17 a0.table a1).bind fun r1 =>
if (decide (r1 < 0)) = true then
some (-1)
else
(g90 a0.intents r1).bind fun r4 =>
if (decide (r4 < 0)) = true then
some (-1)
else
(g91 a0.accounts r4).bind fun r7 =>
if (decide (r7 < 0)) = true then
some (-1)
else
some r7
noncomputable def g125 (a0 : DIntent) : Option DIntent :=
some a0
noncomputable def g94_l0 (a0 : List DIntent) (s : (List DIntent) × Int) : Option (((List DIntent) × Int) ⊕ ((List DIntent))) :=
match s with
| (p12, p13) =>
if (decide (p13 < (a0.length : Int))) = true then
(idx a0 p13).bind fun y27 =>
(g125 y27).bind fun r29 =>
(idx p12 p13).bind fun y31 =>
(p12[p13.toNat]?).bind fun y33 =>
some (.inl ((p12.set p13.toNat r29), (IntKind.i64.wrap (p13 + 1))))
else
some (.inr p12)
noncomputable def g94 (a0 : List DIntent) : Option (List DIntent) :=
if 0 ≤ (a0.length : Int) then
if (a0.length : Int) * 16 ≤ 140737488355328 then
(iter (g94_l0 a0) ((List.replicate (a0.length : Int).toNat (DIntent.mk 0 false)), 0)).bind fun r35 =>
(match r35 with
| p25 =>
some p25)
else none
else none
noncomputable def g47 (a0 : DVault) : Option DVault :=
(g19 a0.table).bind fun r1 =>
(g94 a0.intents).bind fun r3 =>
(g43 a0.accounts).bind fun r5 =>
some (DVault.mk r1 r3 r5 a0.sealed)
noncomputable def g13 (a0 : DVault) : Option Bool :=
(g45 a0 1048576).bind fun r1 =>
if (decide (r1 < 0)) = true then
some true
else
(g47 a0).bind fun r4 =>
(g46 r4).bind fun r6 =>
(g47 a0).bind fun r8 =>
(g48 r8).bind fun r10 =>
if (!(r10 == r6)) = true then
some false
else
(g47 a0).bind fun r13 =>
(g49 r8 r13).bind fun r15 =>
if (!r15) = true then
some false
else
some true
def g66 (a0 : List DLease) : Option (List DLease) := if ([] : List DLease).length + a0.length ≤ 4398046511104 then some a0 else none
noncomputable def g109_l0 (a0 : List Int) (s : Int) : Option ((Int) ⊕ (Unit ⊕ Int)) :=
match s with
| p5 =>
if (decide (p5 < (a0.length : Int))) = true then
(idx a0 p5).bind fun y12 =>
if (y12 != 0) = true then
some (.inr (.inr y12))
else
some (.inl (IntKind.i64.wrap (p5 + 1)))
else
some (.inr (.inl ()))
noncomputable def g109 (a0 : List Int) : Option Int :=
(iter (g109_l0 a0) 0).bind fun r15 =>
(match r15 with
| .inl () =>
some 0
| .inr q => some q)
noncomputable def g69 (a0 : DLease) (a1 : DLease) : Option Int :=
(g110 a0.until_ a1.until_).bind fun r1 =>
(g110 a0.id a1.id).bind fun r3 =>
(g109 ([r1, r3] : List Int)).bind fun r5 =>
some r5
noncomputable def g111 (a0 : DTable) : Option DTable :=
if (([] : List DLease).length + a0.list_.length) * 32 ≤ 140737488355328 then
some (DTable.mk a0.clock a0.next (([] : List DLease) ++ a0.list_))
else none
noncomputable def g112 (a0 : DTable) : Option DTable :=
(g66 a0.list_).bind fun r1 =>
some (DTable.mk a0.clock a0.next r1)
noncomputable def g312_l0 (a0 : Int) (s : (List UInt8) × Int) : Option (((List UInt8) × Int) ⊕ ((List UInt8))) :=
match s with
| (p7, p8) =>
if (decide (p8 ≥ 0)) = true then
if 0 ≤ (IntKind.u64.wrap p8) then
(idx ([48, 49, 50, 51, 52, 53, 54, 55, 56, 57, 97, 98, 99, 100, 101, 102] : List UInt8) (iand .i64 (ishr .i64 a0 (IntKind.u64.wrap p8)) 15)).bind fun y20 =>
if (y20).toNat < 128 then
if p7.length + ([y20] : List UInt8).length ≤ 9223372036854775807 then
some (.inl ((p7 ++ ([y20] : List UInt8)), (IntKind.i64.wrap (p8 - 4))))
else none
else none
else none
else
some (.inr p7)
noncomputable def g312 (a0 : Int) : Option (List UInt8) :=
(iter (g312_l0 a0) (([] : List UInt8), 60)).bind fun r24 =>
(match r24 with
| p17 =>
some p17)
noncomputable def g249_j0 (a0 : DVault) (p17 : List DPair) (p18 : Int) (p39 : List UInt8) : Option (((List DPair) × Int) ⊕ ((List DPair))) :=
(idx a0.intents p18).bind fun y40 =>
(g312 y40.lease).bind fun r42 =>
if ([105, 110, 116, 101, 110, 116, 47] : List UInt8).length + r42.length ≤ 9223372036854775807 then
if (p17.length + ([(DPair.mk (([105, 110, 116, 101, 110, 116, 47] : List UInt8) ++ r42) p39)] : List DPair).length) * 32 ≤ 140737488355328 then
bindv (p17 ++ ([(DPair.mk (([105, 110, 116, 101, 110, 116, 47] : List UInt8) ++ r42) p39)] : List DPair)) fun v46 =>
some (.inl (v46, (IntKind.i64.wrap (p18 + 1))))
else none
else none
noncomputable def g249_l0 (a0 : DVault) (s : (List DPair) × Int) : Option (((List DPair) × Int) ⊕ ((List DPair))) :=
match s with
| (p17, p18) =>
if (decide (p18 < (a0.intents.length : Int))) = true then
(idx a0.intents p18).bind fun y36 =>
if y36.undo = true then
g249_j0 a0 p17 p18 ([117, 110, 100, 111] : List UInt8)
else
g249_j0 a0 p17 p18 ([98, 101, 103, 117, 110] : List UInt8)
else
some (.inr p17)
noncomputable def g249_j1 (p75 : List DPair) (p76 : Int) (y104 : DLease) (p119 : List UInt8) : Option (((List DPair) × Int) ⊕ ((List DPair))) :=
(g312 y104.id).bind fun r120 =>
if ([108, 101, 97, 115, 101, 47] : List UInt8).length + r120.length ≤ 9223372036854775807 then
if (p75.length + ([(DPair.mk (([108, 101, 97, 115, 101, 47] : List UInt8) ++ r120) p119)] : List DPair).length) * 32 ≤ 140737488355328 then
bindv (p75 ++ ([(DPair.mk (([108, 101, 97, 115, 101, 47] : List UInt8) ++ r120) p119)] : List DPair)) fun v124 =>
some (.inl (v124, (IntKind.i64.wrap (p76 + 1))))
else none
else none
noncomputable def g249_l1 (a0 : DVault) (s : (List DPair) × Int) : Option (((List DPair) × Int) ⊕ ((List DPair))) :=
match s with
| (p75, p76) =>
if (decide (p76 < (a0.table.list_.length : Int))) = true then
(idx a0.table.list_ p76).bind fun y104 =>
(g312 y104.until_).bind fun r106 =>
(g312 y104.cap).bind fun r108 =>
if r106.length + r108.length ≤ 9223372036854775807 then
if (r106 ++ r108).length + ([108, 105, 118, 101] : List UInt8).length ≤ 9223372036854775807 then
if y104.queued = true then
(g312 y104.until_).bind fun r128 =>
(g312 y104.cap).bind fun r130 =>
if r128.length + r130.length ≤ 9223372036854775807 then
if (r128 ++ r130).length + ([113, 117, 101, 117, 101, 100] : List UInt8).length ≤ 9223372036854775807 then
g249_j1 p75 p76 y104 ((r128 ++ r130) ++ ([113, 117, 101, 117, 101, 100] : List UInt8))
else none
else none
else
g249_j1 p75 p76 y104 ((r106 ++ r108) ++ ([108, 105, 118, 101] : List UInt8))
else none
else none
else
some (.inr p75)
noncomputable def g249_j2 (a0 : DVault) (p102 : List DPair) (p137 : List UInt8) : Option ((List DPair) × Int) :=
(g312 a0.table.clock).bind fun r138 =>
(g312 a0.table.next).bind fun r140 =>
if r138.length + r140.length ≤ 9223372036854775807 then
if (r138 ++ r140).length + p137.length ≤ 9223372036854775807 then
if (p102.length + ([(DPair.mk ([118, 97, 117, 108, 116] : List UInt8) ((r138 ++ r140) ++ p137))] : List DPair).length) * 32 ≤ 140737488355328 then
bindv (p102 ++ ([(DPair.mk ([118, 97, 117, 108, 116] : List UInt8) ((r138 ++ r140) ++ p137))] : List DPair)) fun v145 =>
some (v145, 0)
else none
else none
else none
noncomputable def g249 (a0 : DVault) : Option ((List DPair) × Int) :=
(g46 a0).bind fun r1 =>
if (!r1) = true then
some (([] : List DPair), 1)
else
(iter (g249_l0 a0) (([] : List DPair), 0)).bind fun r50 =>
(match r50 with
| p34 =>
(iter (g249_l1 a0) (p34, 0)).bind fun r134 =>
(match r134 with
| p102 =>
if a0.sealed = true then
g249_j2 a0 p102 ([115, 101, 97, 108, 101, 100] : List UInt8)
else
g249_j2 a0 p102 ([111, 112, 101, 110] : List UInt8)))
noncomputable def g358_l0 (a0 : Int) (s : (List UInt8) × Int) : Option (((List UInt8) × Int) ⊕ ((List UInt8))) :=
match s with
| (p6, p7) =>
if (decide (p7 ≥ 0)) = true then
if 0 ≤ (IntKind.i64.wrap (4 * p7)) then
(idx ([48, 49, 50, 51, 52, 53, 54, 55, 56, 57, 97, 98, 99, 100, 101, 102] : List UInt8) (iand .i64 (ishr .i64 a0 (IntKind.i64.wrap (4 * p7))) 15)).bind fun y18 =>
if (p6.length + ([y18] : List UInt8).length) * 1 ≤ 140737488355328 then
some (.inl ((p6 ++ ([y18] : List UInt8)), (IntKind.i64.wrap (p7 - 1))))
else none
else none
else
some (.inr p6)
noncomputable def g358 (a0 : Int) : Option (List UInt8) :=
(iter (g358_l0 a0) ([], 15)).bind fun r21 =>
(match r21 with
| p15 =>
some p15)
noncomputable def g359 (a0 : Bool) (a1 : List UInt8) (a2 : List UInt8) : Option (List UInt8) :=
if a0 = true then
some a1
else
some a2
noncomputable def g313_l0 (a0 : DVault) (s : (List DPair) × Int) : Option (((List DPair) × Int) ⊕ ((List DPair))) :=
match s with
| (p12, p13) =>
if (decide (p13 < (a0.intents.length : Int))) = true then
(idx a0.intents p13).bind fun y29 =>
(g358 y29.lease).bind fun r31 =>
if ([105, 110, 116, 101, 110, 116, 47] : List UInt8).length + r31.length ≤ 9223372036854775807 then
(g359 y29.undo ([117, 110, 100, 111] : List UInt8) ([98, 101, 103, 117, 110] : List UInt8)).bind fun r34 =>
if (p12.length + ([(DPair.mk (([105, 110, 116, 101, 110, 116, 47] : List UInt8) ++ r31) r34)] : List DPair).length) * 32 ≤ 140737488355328 then
bindv (p12 ++ ([(DPair.mk (([105, 110, 116, 101, 110, 116, 47] : List UInt8) ++ r31) r34)] : List DPair)) fun v37 =>
some (.inl (v37, (IntKind.i64.wrap (p13 + 1))))
else none
else none
else
some (.inr p12)
noncomputable def g313_l1 (a0 : DVault) (s : (List DPair) × Int) : Option (((List DPair) × Int) ⊕ ((List DPair))) :=
match s with
| (p58, p59) =>
if (decide (p59 < (a0.table.list_.length : Int))) = true then
(idx a0.table.list_ p59).bind fun y81 =>
(g358 y81.id).bind fun r83 =>
if ([108, 101, 97, 115, 101, 47] : List UInt8).length + r83.length ≤ 9223372036854775807 then
(g358 y81.until_).bind fun r86 =>
(g358 y81.cap).bind fun r88 =>
if r86.length + r88.length ≤ 9223372036854775807 then
(g359 y81.queued ([113, 117, 101, 117, 101, 100] : List UInt8) ([108, 105, 118, 101] : List UInt8)).bind fun r91 =>
if (r86 ++ r88).length + r91.length ≤ 9223372036854775807 then
if (p58.length + ([(DPair.mk (([108, 101, 97, 115, 101, 47] : List UInt8) ++ r83) ((r86 ++ r88) ++ r91))] : List DPair).length) * 32 ≤ 140737488355328 then
bindv (p58 ++ ([(DPair.mk (([108, 101, 97, 115, 101, 47] : List UInt8) ++ r83) ((r86 ++ r88) ++ r91))] : List DPair)) fun v95 =>
some (.inl (v95, (IntKind.i64.wrap (p59 + 1))))
else none
else none
else none
else none
else
some (.inr p58)
noncomputable def g313 (a0 : DVault) : Option (List DPair) :=
(iter (g313_l0 a0) ([], 0)).bind fun r39 =>
(match r39 with
| p27 =>
(iter (g313_l1 a0) (p27, 0)).bind fun r97 =>
(match r97 with
| p79 =>
(g358 a0.table.clock).bind fun r99 =>
(g358 a0.table.next).bind fun r101 =>
if r99.length + r101.length ≤ 9223372036854775807 then
(g359 a0.sealed ([115, 101, 97, 108, 101, 100] : List UInt8) ([111, 112, 101, 110] : List UInt8)).bind fun r104 =>
if (r99 ++ r101).length + r104.length ≤ 9223372036854775807 then
if (p79.length + ([(DPair.mk ([118, 97, 117, 108, 116] : List UInt8) ((r99 ++ r101) ++ r104))] : List DPair).length) * 32 ≤ 140737488355328 then
bindv (p79 ++ ([(DPair.mk ([118, 97, 117, 108, 116] : List UInt8) ((r99 ++ r101) ++ r104))] : List DPair)) fun v108 =>
some v108
else none
else none
else none))
noncomputable def g250 (a0 : DVault) : Option ((List DPair) × Int) :=
(g48 a0).bind fun r1 =>
if (!r1) = true then
some ([], 1)
else
(g313 a0).bind fun r4 =>
some (r4, 0)
noncomputable def g254_l0 (a0 : List DPair) (s : Int × Int) : Option ((Int × Int) ⊕ (Int ⊕ Int)) :=
match s with
| (p12, p13) =>
if (decide (p13 < (a0.length : Int))) = true then
(idx a0 p13).bind fun y29 =>
(g316 p12).bind fun r31 =>
if (!(y29.key == r31)) = true then
some (.inr (.inr (-1)))
else
(idx a0 p13).bind fun y34 =>
(g316 (IntKind.i64.wrap (p12 + 1))).bind fun r36 =>
if (!(y34.value == r36)) = true then
some (.inr (.inr (-1)))
else
some (.inl ((IntKind.i64.wrap ((IntKind.i64.wrap (p12 + 1)) + 1)), (IntKind.i64.wrap (p13 + 1))))
else
some (.inr (.inl p12))
noncomputable def g254 (a0 : List DPair) (a1 : Int) : Option Int :=
(iter (g254_l0 a0) (a1, 0)).bind fun r39 =>
(match r39 with
| .inl p27 =>
some p27
| .inr q => some q)
noncomputable def g209 (a0 : DVault) : Option Bool :=
(g45 a0 1048576).bind fun r1 =>
if (decide (r1 < 0)) = true then
some true
else
(g47 a0).bind fun r4 =>
(g249 r4).bind fun r6 =>
(g47 a0).bind fun r8 =>
(g250 r8).bind fun r10 =>
(g251 r10.1 r6.1).bind fun r12 =>
if (bif (!r12) then true else (r10.2 != r6.2)) = true then
some false
else
(g47 a0).bind fun r15 =>
(g49 r8 r15).bind fun r17 =>
if (!r17) = true then
some false
else
(g252 r8 1).bind fun r20 =>
if r20.2.1.length = r8.table.list_.length then
if r20.2.2.1.length = r8.intents.length then
if r20.2.2.2.length = r8.accounts.length then
(if ((decide (r20.1 < 0)) == false) = true then g251 r10.1 r6.1 else some default).bind fun r25 =>
bindv ((bif (bif (decide (r20.1 < 0)) then true else (!r25)) then true else (r10.2 != r6.2))) fun v27 =>
if v27 = true then
some false
else
(g253 r10.1 1).bind fun r30 =>
if r30.2.length = r10.1.length then
(g254 r30.2 1).bind fun r33 =>
if (decide (r33 < 0)) = true then
some false
else
if (r33 != r30.1) = true then
some false
else
(g47 a0).bind fun r37 =>
(g250 r37).bind fun r39 =>
(g251 r39.1 r6.1).bind fun r41 =>
if (bif (!r41) then true else (r39.2 != r6.2)) = true then
some false
else
(g254 r30.2 1).bind fun r44 =>
if (decide (r44 < 0)) = true then
some false
else
if (r44 != r30.1) = true then
some false
else
some true
else none
else none
else none
else none
end Go.Ev
