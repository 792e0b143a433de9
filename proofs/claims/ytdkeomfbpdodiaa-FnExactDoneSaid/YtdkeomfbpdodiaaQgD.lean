/- Functions with the answers of the program's, written by a program of ours. -/
import Derived.Test.YtdkeomfbpdodiaaQvM
set_option linter.all false
set_option linter.unusedVariables false
set_option maxRecDepth 100000
namespace Go.Ev
structure DLease where
  id : Int
  until_ : Int
  cap : Int
  queued : Bool
  deriving Inhabited, DecidableEq
def okDLease (x : DLease) : Prop := ok64 x.id ∧ ok64 x.until_ ∧ ok64 x.cap ∧ okAny x.queued
def eDLease (x : DLease) : List V := [.int .i64 x.id, .int .i64 x.until_, .int .i64 x.cap, .bool x.queued]
structure DTable where
  clock : Int
  next : Int
  list_ : List DLease
  deriving Inhabited, DecidableEq
def okDTable (x : DTable) : Prop := ok64 x.clock ∧ ok64 x.next ∧ (okL okDLease) x.list_
def eDTable (x : DTable) : List V := [.int .i64 x.clock, .int .i64 x.next, .lst 4 (x.list_.map eDLease)]
noncomputable def g55 (a0 : List DLease) (a1 : Int) : Option Int :=
if (decide ((IntKind.i64.wrap (a1 - (a0.length : Int))) < 0)) = true then
some (-1)
else
some (IntKind.i64.wrap (a1 - (a0.length : Int)))
noncomputable def g17 (a0 : DTable) (a1 : Int) : Option Int :=
(g55 a0.list_ a1).bind fun r1 =>
if (decide (r1 < 0)) = true then
some (-1)
else
some r1
noncomputable def g104 (a0 : DLease) : Option DLease :=
some a0
noncomputable def g57_l0 (a0 : List DLease) (s : (List DLease) × Int) : Option (((List DLease) × Int) ⊕ ((List DLease))) :=
match s with
| (p12, p13) =>
if (decide (p13 < (a0.length : Int))) = true then
(idx a0 p13).bind fun y27 =>
(g104 y27).bind fun r29 =>
(idx p12 p13).bind fun y31 =>
(p12[p13.toNat]?).bind fun y33 =>
some (.inl ((p12.set p13.toNat r29), (IntKind.i64.wrap (p13 + 1))))
else
some (.inr p12)
noncomputable def g57 (a0 : List DLease) : Option (List DLease) :=
if 0 ≤ (a0.length : Int) then
if (a0.length : Int) * 32 ≤ 140737488355328 then
(iter (g57_l0 a0) ((List.replicate (a0.length : Int).toNat (DLease.mk 0 0 0 false)), 0)).bind fun r35 =>
(match r35 with
| p25 =>
some p25)
else none
else none
noncomputable def g19 (a0 : DTable) : Option DTable :=
(g57 a0.list_).bind fun r1 =>
some (DTable.mk a0.clock a0.next r1)
noncomputable def g107 (a0 : DLease) (a1 : DLease) : Option Bool :=
if (a0.id != a1.id) = true then
some false
else
if (a0.until_ != a1.until_) = true then
some false
else
if (a0.cap != a1.cap) = true then
some false
else
if (!(a0.queued == a1.queued)) = true then
some false
else
some true
noncomputable def g64_l0 (a0 : List DLease) (a1 : List DLease) (s : Int) : Option ((Int) ⊕ (Unit ⊕ Bool)) :=
match s with
| p10 =>
if (decide (p10 < (a0.length : Int))) = true then
(idx a0 p10).bind fun y21 =>
(idx a1 p10).bind fun y23 =>
(g107 y21 y23).bind fun r25 =>
if (!r25) = true then
some (.inr (.inr false))
else
some (.inl (IntKind.i64.wrap (p10 + 1)))
else
some (.inr (.inl ()))
noncomputable def g64 (a0 : List DLease) (a1 : List DLease) : Option Bool :=
if ((a0.length : Int) != (a1.length : Int)) = true then
some false
else
(iter (g64_l0 a0 a1) 0).bind fun r28 =>
(match r28 with
| .inl () =>
some true
| .inr q => some q)
noncomputable def g21 (a0 : DTable) (a1 : DTable) : Option Bool :=
if (a0.clock != a1.clock) = true then
some false
else
if (a0.next != a1.next) = true then
some false
else
(g64 a0.list_ a1.list_).bind fun r3 =>
if (!r3) = true then
some false
else
some true
noncomputable def g72_l0  (s : (List DLease) × Int × Int) : Option (((List DLease) × Int × Int) ⊕ ((List DLease) × Int)) :=
match s with
| (p26, p27, p28) =>
if (decide (p28 < (p26.length : Int))) = true then
(idx p26 p28).bind fun y60 =>
(p26[p28.toNat]?).bind fun y62 =>
(idx (p26.set p28.toNat (DLease.mk p27 y62.until_ y62.cap y62.queued)) p28).bind fun y64 =>
((p26.set p28.toNat (DLease.mk p27 y62.until_ y62.cap y62.queued))[p28.toNat]?).bind fun y66 =>
bindv ((p26.set p28.toNat (DLease.mk p27 y62.until_ y62.cap y62.queued)).set p28.toNat (DLease.mk y66.id (IntKind.i64.wrap (p27 + 1)) y66.cap y66.queued)) fun v68 =>
(idx v68 p28).bind fun y70 =>
(v68[p28.toNat]?).bind fun y72 =>
bindv (v68.set p28.toNat (DLease.mk y72.id y72.until_ (IntKind.i64.wrap ((IntKind.i64.wrap (p27 + 1)) + 1)) y72.queued)) fun v74 =>
bindv (IntKind.i64.wrap ((IntKind.i64.wrap ((IntKind.i64.wrap (p27 + 1)) + 1)) + 1)) fun v76 =>
(idx v74 p28).bind fun y78 =>
(v74[p28.toNat]?).bind fun y80 =>
bindv (v74.set p28.toNat (DLease.mk y80.id y80.until_ y80.cap (((v76).tmod 3) == 0))) fun v82 =>
some (.inl (v82, (IntKind.i64.wrap (v76 + 1)), (IntKind.i64.wrap (p28 + 1))))
else
some (.inr (p26, p27))
noncomputable def g72 (a0 : List DLease) (a1 : Int) : Option (Int × (List DLease)) :=
(iter (g72_l0) (a0, a1, 0)).bind fun r84 =>
(match r84 with
| (p57, p58) =>
some (p58, p57))
noncomputable def g26 (a0 : DTable) (a1 : Int) : Option (Int × (List DLease)) :=
(g72 a0.list_ a1).bind fun r1 =>
if r1.2.length = a0.list_.length then
some (r1.1, r1.2)
else none
noncomputable def g73_l0 (a0 : List DLease) (s : Int × Int) : Option ((Int × Int) ⊕ (Int ⊕ Int)) :=
match s with
| (p16, p17) =>
if (decide (p17 < (a0.length : Int))) = true then
(idx a0 p17).bind fun y37 =>
if (y37.id != p16) = true then
some (.inr (.inr (-1)))
else
(idx a0 p17).bind fun y40 =>
if (y40.until_ != (IntKind.i64.wrap (p16 + 1))) = true then
some (.inr (.inr (-1)))
else
(idx a0 p17).bind fun y43 =>
if (y43.cap != (IntKind.i64.wrap ((IntKind.i64.wrap (p16 + 1)) + 1))) = true then
some (.inr (.inr (-1)))
else
bindv (IntKind.i64.wrap ((IntKind.i64.wrap ((IntKind.i64.wrap (p16 + 1)) + 1)) + 1)) fun v46 =>
(idx a0 p17).bind fun y48 =>
if (!(y48.queued == (((v46).tmod 3) == 0))) = true then
some (.inr (.inr (-1)))
else
some (.inl ((IntKind.i64.wrap (v46 + 1)), (IntKind.i64.wrap (p17 + 1))))
else
some (.inr (.inl p16))
noncomputable def g73 (a0 : List DLease) (a1 : Int) : Option Int :=
(iter (g73_l0 a0) (a1, 0)).bind fun r51 =>
(match r51 with
| .inl p35 =>
some p35
| .inr q => some q)
noncomputable def g27 (a0 : DTable) (a1 : Int) : Option Int :=
(g73 a0.list_ a1).bind fun r1 =>
if (decide (r1 < 0)) = true then
some (-1)
else
some r1
noncomputable def g56 (a0 : Int) (a1 : Int) (a2 : Int) : Option Bool :=
some (bif (decide (a0 ≥ a1)) then (decide (a0 ≤ a2)) else false)
noncomputable def g18_l0 (a0 : DTable) (s : Int) : Option ((Int) ⊕ (Unit ⊕ Bool)) :=
match s with
| p16 =>
if (decide (p16 < (a0.list_.length : Int))) = true then
(idx a0.list_ p16).bind fun y29 =>
(g56 y29.id 1 (IntKind.i64.wrap (a0.next - 1))).bind fun r31 =>
(if (((!r31) == false) && ((decide (p16 > 0)) == true)) = true then idx a0.list_ (IntKind.i64.wrap (p16 - 1)) else some default).bind fun y33 =>
bindv ((bif (bif (bif (bif (!r31) then true else (bif (decide (p16 > 0)) then (decide (y33.id ≥ y29.id)) else false)) then true else (decide (y29.until_ < 0))) then true else (decide (y29.until_ > y29.cap))) then true else (bif (!y29.queued) then (decide (y29.until_ ≤ a0.clock)) else false))) fun v35 =>
if v35 = true then
some (.inr (.inr false))
else
some (.inl (IntKind.i64.wrap (p16 + 1)))
else
some (.inr (.inl ()))
noncomputable def g18 (a0 : DTable) : Option Bool :=
(if ((decide (a0.clock < 0)) == false) = true then g56 a0.next 1 1000000 else some default).bind fun r1 =>
bindv ((bif (bif (decide (a0.clock < 0)) then true else (!r1)) then true else (decide ((a0.list_.length : Int) > 40)))) fun v3 =>
if v3 = true then
some false
else
(iter (g18_l0 a0) 0).bind fun r38 =>
(match r38 with
| .inl () =>
some true
| .inr q => some q)
noncomputable def g92_l0 (a0 : DTable) (a1 : Int) (s : Int) : Option ((Int) ⊕ (Unit ⊕ Int)) :=
match s with
| p5 =>
if (decide (p5 < (a0.list_.length : Int))) = true then
(idx a0.list_ p5).bind fun y12 =>
if (y12.id == a1) = true then
some (.inr (.inr p5))
else
some (.inl (IntKind.i64.wrap (p5 + 1)))
else
some (.inr (.inl ()))
noncomputable def g92 (a0 : DTable) (a1 : Int) : Option Int :=
(iter (g92_l0 a0 a1) 0).bind fun r15 =>
(match r15 with
| .inl () =>
some (-1)
| .inr q => some q)
noncomputable def g76 (a0 : DTable) (a1 : Int) : Option (DTable × Int) :=
(g92 a0 a1).bind fun r1 =>
if (decide (r1 < 0)) = true then
some (a0, 5)
else
(idx a0.list_ r1).bind fun y4 =>
if (!y4.queued) = true then
some (a0, 13)
else
(slc a0.list_ 0 r1).bind fun s7 =>
(slc a0.list_ (IntKind.i64.wrap (r1 + 1)) (a0.list_.length : Int)).bind fun s9 =>
if (([] : List DLease).length + s7.length) * 32 ≤ 140737488355328 then
if ((([] : List DLease) ++ s7).length + s9.length) * 32 ≤ 140737488355328 then
some ((DTable.mk a0.clock a0.next ((([] : List DLease) ++ s7) ++ s9)), 0)
else none
else none
noncomputable def g30 (a0 : DTable) (a1 : Int) : Option (DTable × Int) :=
(g18 a0).bind fun r1 =>
if (!r1) = true then
some ((DTable.mk 0 0 ([] : List DLease)), 1)
else
(g76 a0 a1).bind fun r4 =>
if (r4.2 != 0) = true then
some ((DTable.mk 0 0 ([] : List DLease)), r4.2)
else
some (r4.1, 0)
noncomputable def g63 (a0 : Int) (a1 : Int) (a2 : Int) : Option Bool :=
some (bif (decide (a1 ≤ a0)) then (decide (a0 ≤ a2)) else false)
noncomputable def g58 (a0 : Int) : Option Bool :=
(g63 a0 1 1000000).bind fun r1 =>
some r1
noncomputable def g59_l0 (a0 : List Int) (a1 : Int) (a2 : Int) (s : Int) : Option ((Int) ⊕ (Unit ⊕ Bool)) :=
match s with
| p11 =>
if (decide (p11 < (a0.length : Int))) = true then
(idx a0 p11).bind fun y24 =>
(g63 y24 a1 a2).bind fun r26 =>
(if (((!r26) == false) && ((decide (p11 > 0)) == true)) = true then idx a0 (IntKind.i64.wrap (p11 - 1)) else some default).bind fun y28 =>
bindv ((bif (!r26) then true else (bif (decide (p11 > 0)) then (decide (y28 ≥ y24)) else false))) fun v30 =>
if v30 = true then
some (.inr (.inr false))
else
some (.inl (IntKind.i64.wrap (p11 + 1)))
else
some (.inr (.inl ()))
noncomputable def g59 (a0 : List Int) (a1 : Int) (a2 : Int) : Option Bool :=
(iter (g59_l0 a0 a1 a2) 0).bind fun r33 =>
(match r33 with
| .inl () =>
some true
| .inr q => some q)
noncomputable def g60_l0 (a0 : DTable) (s : (List Int) × Int) : Option (((List Int) × Int) ⊕ ((List Int))) :=
match s with
| (p5, p6) =>
if (decide (p6 < (a0.list_.length : Int))) = true then
(idx a0.list_ p6).bind fun y15 =>
if (p5.length + ([y15.id] : List Int).length) * 8 ≤ 140737488355328 then
some (.inl ((p5 ++ ([y15.id] : List Int)), (IntKind.i64.wrap (p6 + 1))))
else none
else
some (.inr p5)
noncomputable def g60 (a0 : DTable) : Option (List Int) :=
(iter (g60_l0 a0) ([], 0)).bind fun r18 =>
(match r18 with
| p13 =>
some p13)
noncomputable def g108_l0 (a0 : List DLease) (is1 : DLease → Option Bool) (s : Int) : Option ((Int) ⊕ (Unit ⊕ Int)) :=
match s with
| p7 =>
if (decide (p7 < (a0.length : Int))) = true then
(idx a0 p7).bind fun y16 =>
(is1 y16).bind fun r18 =>
if r18 = true then
some (.inr (.inr p7))
else
some (.inl (IntKind.i64.wrap (p7 + 1)))
else
some (.inr (.inl ()))
noncomputable def g108 (a0 : List DLease) (is1 : DLease → Option Bool) : Option Int :=
(iter (g108_l0 a0 is1) 0).bind fun r21 =>
(match r21 with
| .inl () =>
some (-1)
| .inr q => some q)
noncomputable def g105 (a0 : List DLease) (is1 : DLease → Option Bool) : Option Bool :=
(g108 a0 is1).bind fun r1 =>
some (decide (r1 ≥ 0))
noncomputable def g106 (a0 : DLease) (is1 : DLease → Option Bool) : Option Bool :=
(is1 a0).bind fun r1 =>
some (!r1)
noncomputable def g61 (a0 : List DLease) (is1 : DLease → Option Bool) : Option Bool :=
(g105 a0 (fun z106_0 => g106 z106_0 is1)).bind fun r1 =>
some (!r1)
noncomputable def g62 (a0 : DLease) (a1 : DTable) : Option Bool :=
(g63 a0.until_ 0 a0.cap).bind fun r1 =>
bindv ((bif r1 then (bif a0.queued then true else (decide (a0.until_ > a1.clock))) else false)) fun v3 =>
some v3
noncomputable def g20 (a0 : DTable) : Option Bool :=
(if ((decide (a0.clock ≥ 0)) == true) = true then g58 a0.next else some default).bind fun r1 =>
(if ((bif (bif (decide (a0.clock ≥ 0)) then r1 else false) then (decide ((a0.list_.length : Int) ≤ 40)) else false) == true) = true then g60 a0 else some default).bind fun r3 =>
(if ((bif (bif (decide (a0.clock ≥ 0)) then r1 else false) then (decide ((a0.list_.length : Int) ≤ 40)) else false) == true) = true then g59 r3 1 (IntKind.i64.wrap (a0.next - 1)) else some default).bind fun r5 =>
(if ((bif (bif (bif (decide (a0.clock ≥ 0)) then r1 else false) then (decide ((a0.list_.length : Int) ≤ 40)) else false) then r5 else false) == true) = true then g61 a0.list_ (fun z62_0 => g62 z62_0 a0) else some default).bind fun r7 =>
bindv ((bif (bif (bif (bif (decide (a0.clock ≥ 0)) then r1 else false) then (decide ((a0.list_.length : Int) ≤ 40)) else false) then r5 else false) then r7 else false)) fun v9 =>
some v9
noncomputable def g113_l0 (a0 : List DLease) (a1 : Int) (is2 : DLease → Int → Option Int) (s : Int × Int) : Option ((Int × Int) ⊕ (Int)) :=
match s with
| (p9, p10) =>
if (decide (p9 < p10)) = true then
bindv (IntKind.i64.wrap (ishr .u64 (IntKind.u64.wrap (IntKind.i64.wrap (p9 + p10))) 1)) fun v23 =>
(idx a0 v23).bind fun y25 =>
(is2 y25 a1).bind fun r27 =>
if (decide (r27 < 0)) = true then
some (.inl ((IntKind.i64.wrap (v23 + 1)), p10))
else
some (.inl (p9, v23))
else
some (.inr p9)
noncomputable def g113 (a0 : List DLease) (a1 : Int) (is2 : DLease → Int → Option Int) : Option (Int × Bool) :=
(iter (g113_l0 a0 a1 is2) (0, (a0.length : Int))).bind fun r30 =>
(match r30 with
| p21 =>
(if ((decide (p21 < (a0.length : Int))) == true) = true then idx a0 p21 else some default).bind fun y32 =>
(if ((decide (p21 < (a0.length : Int))) == true) = true then is2 y32 a1 else some default).bind fun r34 =>
some (p21, (bif (decide (p21 < (a0.length : Int))) then (r34 == 0) else false)))
noncomputable def g136 (a0 : Int) : Option Bool :=
some (a0 != a0)
noncomputable def g110 (a0 : Int) (a1 : Int) : Option Int :=
(g136 a0).bind fun r1 =>
(g136 a1).bind fun r3 =>
if r1 = true then
if r3 = true then
some 0
else
some (-1)
else
if r3 = true then
some 1
else
if (decide (a0 < a1)) = true then
some (-1)
else
if (decide (a0 > a1)) = true then
some 1
else
some 0
noncomputable def g114 (a0 : DLease) (a1 : Int) : Option Int :=
(g110 a0.id a1).bind fun r1 =>
some r1
noncomputable def g77 (a0 : DTable) (a1 : Int) : Option (Int × Bool) :=
(g113 a0.list_ a1 (fun z114_0 z114_1 => g114 z114_0 z114_1)).bind fun r1 =>
some (r1.1, r1.2)
def g66 (a0 : List DLease) : Option (List DLease) := if ([] : List DLease).length + a0.length ≤ 4398046511104 then some a0 else none
noncomputable def g112 (a0 : DTable) : Option DTable :=
(g66 a0.list_).bind fun r1 =>
some (DTable.mk a0.clock a0.next r1)
def g115 (a0 : List DLease) (a1 : Int) (a2 : Int) : Option (List DLease) := if (0 ≤ a1 ∧ a1 ≤ a2 ∧ a2 ≤ (a0.length : Int)) ∧ a0.length ≤ 4398046511104 then some (a0.take a1.toNat ++ a0.drop a2.toNat) else none
noncomputable def g78 (a0 : DTable) (a1 : Int) : Option DTable :=
(g112 a0).bind fun r1 =>
(g115 r1.list_ a1 (IntKind.i64.wrap (a1 + 1))).bind fun r3 =>
some (DTable.mk r1.clock r1.next r3)
noncomputable def g31 (a0 : DTable) (a1 : Int) : Option (DTable × Int) :=
(g20 a0).bind fun r1 =>
if (!r1) = true then
some ((DTable.mk 0 0 ([] : List DLease)), 1)
else
(g77 a0 a1).bind fun r4 =>
if (!r4.2) = true then
some ((DTable.mk 0 0 ([] : List DLease)), 5)
else
(idx a0.list_ r4.1).bind fun y7 =>
if (!y7.queued) = true then
some ((DTable.mk 0 0 ([] : List DLease)), 13)
else
(g78 a0 r4.1).bind fun r10 =>
some (r10, 0)
noncomputable def g8 (a0 : DTable) (a1 : Int) : Option Bool :=
(g17 a0 1048576).bind fun r1 =>
if (decide (r1 < 0)) = true then
some true
else
(g19 a0).bind fun r4 =>
(g30 r4 a1).bind fun r6 =>
(g19 a0).bind fun r8 =>
(g31 r8 a1).bind fun r10 =>
(g21 r10.1 r6.1).bind fun r12 =>
if (bif (!r12) then true else (r10.2 != r6.2)) = true then
some false
else
(g19 a0).bind fun r15 =>
(g21 r8 r15).bind fun r17 =>
if (!r17) = true then
some false
else
(g26 r8 1).bind fun r20 =>
if r20.2.length = r8.list_.length then
(if ((decide (r20.1 < 0)) == false) = true then g21 r10.1 r6.1 else some default).bind fun r23 =>
bindv ((bif (bif (decide (r20.1 < 0)) then true else (!r23)) then true else (r10.2 != r6.2))) fun v25 =>
if v25 = true then
some false
else
(g26 r10.1 1).bind fun r28 =>
if r28.2.length = r10.1.list_.length then
(g27 (DTable.mk r10.1.clock r10.1.next r28.2) 1).bind fun r31 =>
if (decide (r31 < 0)) = true then
some false
else
if (r31 != r28.1) = true then
some false
else
(g19 a0).bind fun r35 =>
(g31 r35 a1).bind fun r37 =>
(g21 r37.1 r6.1).bind fun r39 =>
if (bif (!r39) then true else (r37.2 != r6.2)) = true then
some false
else
(g27 (DTable.mk r10.1.clock r10.1.next r28.2) 1).bind fun r42 =>
if (decide (r42 < 0)) = true then
some false
else
if (r42 != r28.1) = true then
some false
else
some true
else none
else none
noncomputable def g4 (a0 : DTable) : Option Bool :=
(g17 a0 1048576).bind fun r1 =>
if (decide (r1 < 0)) = true then
some true
else
(g19 a0).bind fun r4 =>
(g18 r4).bind fun r6 =>
(g19 a0).bind fun r8 =>
(g20 r8).bind fun r10 =>
if (!(r10 == r6)) = true then
some false
else
(g19 a0).bind fun r13 =>
(g21 r8 r13).bind fun r15 =>
if (!r15) = true then
some false
else
some true
noncomputable def g22_j0 (p16 : Int) (p41 : Int) : Option ((Int × Int) ⊕ (Int)) :=
some (.inl (p41, (IntKind.i64.wrap (p16 + 1))))
noncomputable def g22_l0 (a0 : DTable) (s : Int × Int) : Option ((Int × Int) ⊕ (Int)) :=
match s with
| (p15, p16) =>
if (decide (p16 < (a0.list_.length : Int))) = true then
(idx a0.list_ p16).bind fun y43 =>
(if (((!y43.queued) == true) && ((decide (p15 < 0)) == false)) = true then idx a0.list_ p16 else some default).bind fun y45 =>
(if (((!y43.queued) == true) && ((decide (p15 < 0)) == false)) = true then idx a0.list_ p15 else some default).bind fun y47 =>
bindv ((bif (!y43.queued) then (bif (decide (p15 < 0)) then true else (decide (y45.until_ < y47.until_))) else false)) fun v49 =>
if v49 = true then
g22_j0 p16 p16
else
g22_j0 p16 p15
else
some (.inr p15)
noncomputable def g22 (a0 : DTable) : Option (Int × Int) :=
(g18 a0).bind fun r1 =>
if (!r1) = true then
some (0, 1)
else
(iter (g22_l0 a0) ((-1), 0)).bind fun r52 =>
(match r52 with
| p30 =>
if (decide (p30 < 0)) = true then
some (0, 5)
else
(idx a0.list_ p30).bind fun y55 =>
some (y55.id, 0))
noncomputable def g65_j0 (p20 : Int) (p52 : List DLease) (p53 : Int) : Option (((List DLease) × Int × Int) ⊕ ((List DLease) × Int)) :=
some (.inl (p52, p53, (IntKind.i64.wrap (p20 + 1))))
noncomputable def g65_l0 (is1 : DLease → Option Bool) (s : (List DLease) × Int × Int) : Option (((List DLease) × Int × Int) ⊕ ((List DLease) × Int)) :=
match s with
| (p18, p19, p20) =>
if (decide (p20 < (p18.length : Int))) = true then
(idx p18 p20).bind fun y55 =>
(p18[p20.toNat]?).bind fun y57 =>
(is1 y57).bind fun r59 =>
if (!r59) = true then
(idx p18 p19).bind fun y62 =>
(p18[p19.toNat]?).bind fun y64 =>
g65_j0 p20 (p18.set p19.toNat y57) (IntKind.i64.wrap (p19 + 1))
else
g65_j0 p20 p18 p19
else
some (.inr (p18, p19))
noncomputable def g65 (a0 : List DLease) (is1 : DLease → Option Bool) : Option (List DLease) :=
(g108 a0 is1).bind fun r1 =>
if (r1 == (-1)) = true then
some a0
else
(iter (g65_l0 is1) (a0, r1, (IntKind.i64.wrap (r1 + 1)))).bind fun r66 =>
(match r66 with
| (p38, p39) =>
(slc p38 p39 (p38.length : Int)).bind fun s68 =>
(slc (ovl p38 p39.toNat (List.replicate s68.length (DLease.mk 0 0 0 false))) 0 p39).bind fun s70 =>
some s70)
noncomputable def g67 (a0 : DLease) : Option Bool :=
some a0.queued
noncomputable def g68_j1 (p16 : Int) (p50 : Int) (p51 : Int) (p52 : Int) (p53 : Bool) : Option ((Int × Int × Int × Int × Bool) ⊕ (Int × Int × Int × Bool)) :=
some (.inl ((IntKind.i64.wrap (p16 + 1)), p50, p51, p52, p53))
noncomputable def g68_l0 (a0 : List DLease) (is1 : DLease → DLease → Option Int) (s : Int × Int × Int × Int × Bool) : Option ((Int × Int × Int × Int × Bool) ⊕ (Int × Int × Int × Bool)) :=
match s with
| (p16, p17, p18, p19, p20) =>
if (decide (p16 < (a0.length : Int))) = true then
(idx a0 p16).bind fun y55 =>
(is1 y55 (DLease.mk p17 p18 p19 p20)).bind fun r57 =>
if (decide (r57 < 0)) = true then
(idx a0 p16).bind fun y60 =>
g68_j1 p16 y60.id y60.until_ y60.cap y60.queued
else
g68_j1 p16 p17 p18 p19 p20
else
some (.inr (p17, p18, p19, p20))
noncomputable def g68_j0 (a0 : List DLease) (is1 : DLease → DLease → Option Int) : Option DLease :=
(idx a0 0).bind fun y2 =>
(iter (g68_l0 a0 is1) (1, y2.id, y2.until_, y2.cap, y2.queued)).bind fun r62 =>
(match r62 with
| (p38, p39, p40, p41) =>
some (DLease.mk p38 p39 p40 p41))
noncomputable def g68 (a0 : List DLease) (is1 : DLease → DLease → Option Int) : Option DLease :=
if (decide ((a0.length : Int) < 1)) = true then
none
else
g68_j0 a0 is1
noncomputable def g109_l0 (a0 : List Int) (s : Int) : Option ((Int) ⊕ (Unit ⊕ Int)) :=
match s with
| p5 =>
if (decide (p5 < (a0.length : Int))) = true then
(idx a0 p5).bind fun y12 =>
if (y12 != 0) = true then
some (.inr (.inr y12))
else
some (.inl (IntKind.i64.wrap (p5 + 1)))
else
some (.inr (.inl ()))
noncomputable def g109 (a0 : List Int) : Option Int :=
(iter (g109_l0 a0) 0).bind fun r15 =>
(match r15 with
| .inl () =>
some 0
| .inr q => some q)
noncomputable def g69 (a0 : DLease) (a1 : DLease) : Option Int :=
(g110 a0.until_ a1.until_).bind fun r1 =>
(g110 a0.id a1.id).bind fun r3 =>
(g109 ([r1, r3] : List Int)).bind fun r5 =>
some r5
noncomputable def g23 (a0 : DTable) : Option (Int × Int) :=
(g20 a0).bind fun r1 =>
if (!r1) = true then
some (0, 1)
else
(g66 a0.list_).bind fun r4 =>
(g65 r4 (fun z67_0 => g67 z67_0)).bind fun r6 =>
if ((r6.length : Int) == 0) = true then
some (0, 5)
else
(g68 r6 (fun z69_0 z69_1 => g69 z69_0 z69_1)).bind fun r9 =>
some (r9.id, 0)
noncomputable def g5 (a0 : DTable) : Option Bool :=
(g17 a0 1048576).bind fun r1 =>
if (decide (r1 < 0)) = true then
some true
else
(g19 a0).bind fun r4 =>
(g22 r4).bind fun r6 =>
(g19 a0).bind fun r8 =>
(g23 r8).bind fun r10 =>
if (bif (r10.1 != r6.1) then true else (r10.2 != r6.2)) = true then
some false
else
(g19 a0).bind fun r13 =>
(g21 r8 r13).bind fun r15 =>
if (!r15) = true then
some false
else
some true
noncomputable def g53 (a0 : Int) (a1 : Int) : Option Int :=
if (decide (a0 > (IntKind.i64.wrap (9223372036854775807 - a1)))) = true then
some 9223372036854775807
else
some (IntKind.i64.wrap (a0 + a1))
noncomputable def g111 (a0 : DTable) : Option DTable :=
if (([] : List DLease).length + a0.list_.length) * 32 ≤ 140737488355328 then
some (DTable.mk a0.clock a0.next (([] : List DLease) ++ a0.list_))
else none
noncomputable def g70 (a0 : DTable) (a1 : Int) (a2 : Int) : Option (DTable × Int × Int) :=
if (bif (decide (a1 < 1)) then true else (decide (a2 < a1))) = true then
some (a0, 0, 4)
else
if (a0.clock == 9223372036854775807) = true then
some (a0, 0, 11)
else
bindv ((bif ((a0.list_.length : Int) == 40) then true else (a0.next == 1000000))) fun v3 =>
if v3 = true then
some (a0, 0, 9)
else
(g111 a0).bind fun r6 =>
(g53 a0.clock a1).bind fun r8 =>
(g53 a0.clock a2).bind fun r10 =>
if (r6.list_.length + ([(DLease.mk a0.next r8 r10 false)] : List DLease).length) * 32 ≤ 140737488355328 then
some ((DTable.mk r6.clock (IntKind.i64.wrap (r6.next + 1)) (r6.list_ ++ ([(DLease.mk a0.next r8 r10 false)] : List DLease))), a0.next, 0)
else none
noncomputable def g24 (a0 : DTable) (a1 : Int) (a2 : Int) : Option (DTable × Int × Int) :=
(g18 a0).bind fun r1 =>
if (!r1) = true then
some ((DTable.mk 0 0 ([] : List DLease)), 0, 1)
else
(g70 a0 a1 a2).bind fun r4 =>
if (r4.2.2 != 0) = true then
some ((DTable.mk 0 0 ([] : List DLease)), 0, r4.2.2)
else
some (r4.1, r4.2.1, 0)
noncomputable def g54 (a0 : Int) (a1 : Int) : Option Int :=
if (decide (a0 > (IntKind.i64.wrap (9223372036854775807 - a1)))) = true then
some 9223372036854775807
else
some (IntKind.i64.wrap (a0 + a1))
noncomputable def g71 (a0 : DTable) (a1 : Int) (a2 : Int) : Option (DTable × Int × Int) :=
if (bif (decide (a1 < 1)) then true else (decide (a2 < a1))) = true then
some ((DTable.mk 0 0 ([] : List DLease)), 0, 4)
else
if (a0.clock == 9223372036854775807) = true then
some ((DTable.mk 0 0 ([] : List DLease)), 0, 11)
else
bindv ((bif ((a0.list_.length : Int) == 40) then true else (a0.next == 1000000))) fun v3 =>
if v3 = true then
some ((DTable.mk 0 0 ([] : List DLease)), 0, 9)
else
(g112 a0).bind fun r6 =>
(g54 a0.clock a1).bind fun r8 =>
(g54 a0.clock a2).bind fun r10 =>
if (r6.list_.length + ([(DLease.mk a0.next r8 r10 false)] : List DLease).length) * 32 ≤ 140737488355328 then
some ((DTable.mk r6.clock (IntKind.i64.wrap (r6.next + 1)) (r6.list_ ++ ([(DLease.mk a0.next r8 r10 false)] : List DLease))), a0.next, 0)
else none
noncomputable def g25 (a0 : DTable) (a1 : Int) (a2 : Int) : Option (DTable × Int × Int) :=
(g20 a0).bind fun r1 =>
if (!r1) = true then
some ((DTable.mk 0 0 ([] : List DLease)), 0, 1)
else
(g71 a0 a1 a2).bind fun r4 =>
some (r4.1, r4.2.1, r4.2.2)
noncomputable def g6 (a0 : DTable) (a1 : Int) (a2 : Int) : Option Bool :=
(g17 a0 1048576).bind fun r1 =>
if (decide (r1 < 0)) = true then
some true
else
(g19 a0).bind fun r4 =>
(g24 r4 a1 a2).bind fun r6 =>
(g19 a0).bind fun r8 =>
(g25 r8 a1 a2).bind fun r10 =>
(g21 r10.1 r6.1).bind fun r12 =>
bindv ((bif (bif (!r12) then true else (r10.2.1 != r6.2.1)) then true else (r10.2.2 != r6.2.2))) fun v14 =>
if v14 = true then
some false
else
(g19 a0).bind fun r17 =>
(g21 r8 r17).bind fun r19 =>
if (!r19) = true then
some false
else
(g26 r8 1).bind fun r22 =>
if r22.2.length = r8.list_.length then
(if ((decide (r22.1 < 0)) == false) = true then g21 r10.1 r6.1 else some default).bind fun r25 =>
bindv ((bif (bif (bif (decide (r22.1 < 0)) then true else (!r25)) then true else (r10.2.1 != r6.2.1)) then true else (r10.2.2 != r6.2.2))) fun v27 =>
if v27 = true then
some false
else
(g26 r10.1 1).bind fun r30 =>
if r30.2.length = r10.1.list_.length then
(g27 (DTable.mk r10.1.clock r10.1.next r30.2) 1).bind fun r33 =>
if (decide (r33 < 0)) = true then
some false
else
if (r33 != r30.1) = true then
some false
else
(g19 a0).bind fun r37 =>
(g25 r37 a1 a2).bind fun r39 =>
(g21 r39.1 r6.1).bind fun r41 =>
bindv ((bif (bif (!r41) then true else (r39.2.1 != r6.2.1)) then true else (r39.2.2 != r6.2.2))) fun v43 =>
if v43 = true then
some false
else
(g27 (DTable.mk r10.1.clock r10.1.next r30.2) 1).bind fun r46 =>
if (decide (r46 < 0)) = true then
some false
else
if (r46 != r30.1) = true then
some false
else
some true
else none
else none
noncomputable def g74 (a0 : DTable) (a1 : Int) : Option (DTable × Int) :=
(g92 a0 a1).bind fun r1 =>
if (decide (r1 < 0)) = true then
some (a0, 5)
else
(g111 a0).bind fun r4 =>
(idx r4.list_ r1).bind fun y6 =>
(r4.list_[r1.toNat]?).bind fun y8 =>
some ((DTable.mk r4.clock r4.next (r4.list_.set r1.toNat (DLease.mk y8.id y8.until_ y8.cap true))), 0)
noncomputable def g28 (a0 : DTable) (a1 : Int) : Option (DTable × Int) :=
(g18 a0).bind fun r1 =>
if (!r1) = true then
some ((DTable.mk 0 0 ([] : List DLease)), 1)
else
(g74 a0 a1).bind fun r4 =>
if (r4.2 != 0) = true then
some ((DTable.mk 0 0 ([] : List DLease)), r4.2)
else
some (r4.1, 0)
noncomputable def g75 (a0 : DTable) (a1 : Int) : Option (DTable × Int) :=
(g77 a0 a1).bind fun r1 =>
if (!r1.2) = true then
some ((DTable.mk 0 0 ([] : List DLease)), 5)
else
(g112 a0).bind fun r4 =>
(idx r4.list_ r1.1).bind fun y6 =>
(r4.list_[r1.1.toNat]?).bind fun y8 =>
some ((DTable.mk r4.clock r4.next (r4.list_.set r1.1.toNat (DLease.mk y8.id y8.until_ y8.cap true))), 0)
noncomputable def g29 (a0 : DTable) (a1 : Int) : Option (DTable × Int) :=
(g20 a0).bind fun r1 =>
if (!r1) = true then
some ((DTable.mk 0 0 ([] : List DLease)), 1)
else
(g75 a0 a1).bind fun r4 =>
some (r4.1, r4.2)
noncomputable def g7 (a0 : DTable) (a1 : Int) : Option Bool :=
(g17 a0 1048576).bind fun r1 =>
if (decide (r1 < 0)) = true then
some true
else
(g19 a0).bind fun r4 =>
(g28 r4 a1).bind fun r6 =>
(g19 a0).bind fun r8 =>
(g29 r8 a1).bind fun r10 =>
(g21 r10.1 r6.1).bind fun r12 =>
if (bif (!r12) then true else (r10.2 != r6.2)) = true then
some false
else
(g19 a0).bind fun r15 =>
(g21 r8 r15).bind fun r17 =>
if (!r17) = true then
some false
else
(g26 r8 1).bind fun r20 =>
if r20.2.length = r8.list_.length then
(if ((decide (r20.1 < 0)) == false) = true then g21 r10.1 r6.1 else some default).bind fun r23 =>
bindv ((bif (bif (decide (r20.1 < 0)) then true else (!r23)) then true else (r10.2 != r6.2))) fun v25 =>
if v25 = true then
some false
else
(g26 r10.1 1).bind fun r28 =>
if r28.2.length = r10.1.list_.length then
(g27 (DTable.mk r10.1.clock r10.1.next r28.2) 1).bind fun r31 =>
if (decide (r31 < 0)) = true then
some false
else
if (r31 != r28.1) = true then
some false
else
(g19 a0).bind fun r35 =>
(g29 r35 a1).bind fun r37 =>
(g21 r37.1 r6.1).bind fun r39 =>
if (bif (!r39) then true else (r37.2 != r6.2)) = true then
some false
else
(g27 (DTable.mk r10.1.clock r10.1.next r28.2) 1).bind fun r42 =>
if (decide (r42 < 0)) = true then
some false
else
if (r42 != r28.1) = true then
some false
else
some true
else none
else none
noncomputable def g79 (a0 : DTable) (a1 : Int) (a2 : Int) : Option (DTable × Int) :=
(g92 a0 a1).bind fun r1 =>
if (decide (a2 < 1)) = true then
some (a0, 4)
else
if (decide (r1 < 0)) = true then
some (a0, 5)
else
(idx a0.list_ r1).bind fun y5 =>
if y5.queued = true then
some (a0, 13)
else
(g111 a0).bind fun r8 =>
(idx r8.list_ r1).bind fun y10 =>
(r8.list_[r1.toNat]?).bind fun y12 =>
(g53 a0.clock a2).bind fun r14 =>
some ((DTable.mk r8.clock r8.next (r8.list_.set r1.toNat (DLease.mk y12.id (if r14 < y12.cap then r14 else y12.cap) y12.cap y12.queued))), 0)
noncomputable def g32 (a0 : DTable) (a1 : Int) (a2 : Int) : Option (DTable × Int) :=
(g18 a0).bind fun r1 =>
if (!r1) = true then
some ((DTable.mk 0 0 ([] : List DLease)), 1)
else
(g79 a0 a1 a2).bind fun r4 =>
if (r4.2 != 0) = true then
some ((DTable.mk 0 0 ([] : List DLease)), r4.2)
else
some (r4.1, 0)
noncomputable def g80 (a0 : DTable) (a1 : Int) (a2 : Int) : Option (DTable × Int) :=
(g77 a0 a1).bind fun r1 =>
if (decide (a2 < 1)) = true then
some ((DTable.mk 0 0 ([] : List DLease)), 4)
else
if (!r1.2) = true then
some ((DTable.mk 0 0 ([] : List DLease)), 5)
else
(idx a0.list_ r1.1).bind fun y5 =>
if y5.queued = true then
some ((DTable.mk 0 0 ([] : List DLease)), 13)
else
(g112 a0).bind fun r8 =>
(idx r8.list_ r1.1).bind fun y10 =>
(r8.list_[r1.1.toNat]?).bind fun y12 =>
(g54 a0.clock a2).bind fun r14 =>
bindv (r8.list_.set r1.1.toNat (DLease.mk y12.id (if y12.cap < r14 then y12.cap else r14) y12.cap y12.queued)) fun v16 =>
some ((DTable.mk r8.clock r8.next v16), 0)
noncomputable def g33 (a0 : DTable) (a1 : Int) (a2 : Int) : Option (DTable × Int) :=
(g20 a0).bind fun r1 =>
if (!r1) = true then
some ((DTable.mk 0 0 ([] : List DLease)), 1)
else
(g80 a0 a1 a2).bind fun r4 =>
some (r4.1, r4.2)
noncomputable def g9 (a0 : DTable) (a1 : Int) (a2 : Int) : Option Bool :=
(g17 a0 1048576).bind fun r1 =>
if (decide (r1 < 0)) = true then
some true
else
(g19 a0).bind fun r4 =>
(g32 r4 a1 a2).bind fun r6 =>
(g19 a0).bind fun r8 =>
(g33 r8 a1 a2).bind fun r10 =>
(g21 r10.1 r6.1).bind fun r12 =>
if (bif (!r12) then true else (r10.2 != r6.2)) = true then
some false
else
(g19 a0).bind fun r15 =>
(g21 r8 r15).bind fun r17 =>
if (!r17) = true then
some false
else
(g26 r8 1).bind fun r20 =>
if r20.2.length = r8.list_.length then
(if ((decide (r20.1 < 0)) == false) = true then g21 r10.1 r6.1 else some default).bind fun r23 =>
bindv ((bif (bif (decide (r20.1 < 0)) then true else (!r23)) then true else (r10.2 != r6.2))) fun v25 =>
if v25 = true then
some false
else
(g26 r10.1 1).bind fun r28 =>
if r28.2.length = r10.1.list_.length then
(g27 (DTable.mk r10.1.clock r10.1.next r28.2) 1).bind fun r31 =>
if (decide (r31 < 0)) = true then
some false
else
if (r31 != r28.1) = true then
some false
else
(g19 a0).bind fun r35 =>
(g33 r35 a1 a2).bind fun r37 =>
(g21 r37.1 r6.1).bind fun r39 =>
if (bif (!r39) then true else (r37.2 != r6.2)) = true then
some false
else
(g27 (DTable.mk r10.1.clock r10.1.next r28.2) 1).bind fun r42 =>
if (decide (r42 < 0)) = true then
some false
else
if (r42 != r28.1) = true then
some false
else
some true
else none
else none
end Go.Ev
