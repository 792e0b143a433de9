/- Functions with the answers of the program's, written by a program of ours. -/
import Derived.Test.YtdmclbbhhcpjfaaQvM
set_option linter.all false
set_option maxHeartbeats 4000000
set_option linter.unusedVariables false
set_option maxRecDepth 100000
namespace Go.Ev
structure DIssued where
  serial : Int
  to_ : Int
  subject : List UInt8
  revoked : Bool
  deriving Inhabited, DecidableEq
def okDIssued (x : DIssued) : Prop := ok64 x.serial ∧ ok64 x.to_ ∧ okStr x.subject ∧ okAny x.revoked
def eDIssued (x : DIssued) : List V := [.int .i64 x.serial, .int .i64 x.to_, .str x.subject, .bool x.revoked]
structure DAuthority where
  name_ : List UInt8
  seed : List UInt8
  serial : Int
  number : Int
  suffix : List UInt8
  most : Int
  list_ : List DIssued
  deriving Inhabited, DecidableEq
def okDAuthority (x : DAuthority) : Prop := okStr x.name_ ∧ (okL okAny) x.seed ∧ ok64 x.serial ∧ ok64 x.number ∧ okStr x.suffix ∧ ok64 x.most ∧ (okL okDIssued) x.list_
def eDAuthority (x : DAuthority) : List V := [.str x.name_, .lst 1 (x.seed.map eU8), .int .i64 x.serial, .int .i64 x.number, .str x.suffix, .int .i64 x.most, .lst 4 (x.list_.map eDIssued)]
noncomputable def g36_l0 (a0 : List Int) (a1 : List Int) (s : Int) : Option ((Int) ⊕ (Unit ⊕ Bool)) :=
match s with
| p8 =>
if (decide (p8 < (a0.length : Int))) = true then
(idx a0 p8).bind fun y17 =>
(idx a1 p8).bind fun y19 =>
if (y17 != y19) = true then
some (.inr (.inr false))
else
some (.inl (IntKind.i64.wrap (p8 + 1)))
else
some (.inr (.inl ()))
noncomputable def g36 (a0 : List Int) (a1 : List Int) : Option Bool :=
if ((a0.length : Int) != (a1.length : Int)) = true then
some false
else
(iter (g36_l0 a0 a1) 0).bind fun r22 =>
(match r22 with
| .inl () =>
some true
| .inr q => some q)
noncomputable def g37_l0  (s : (List Int) × Int × Int) : Option (((List Int) × Int × Int) ⊕ ((List Int) × Int)) :=
match s with
| (p6, p7, p8) =>
if (decide (p8 < (p6.length : Int))) = true then
(idx p6 p8).bind fun y20 =>
(p6[p8.toNat]?).bind fun y22 =>
some (.inl ((p6.set p8.toNat p7), (IntKind.i64.wrap (p7 + 1)), (IntKind.i64.wrap (p8 + 1))))
else
some (.inr (p6, p7))
noncomputable def g37 (a0 : List Int) (a1 : Int) : Option (Int × (List Int)) :=
(iter (g37_l0) (a0, a1, 0)).bind fun r24 =>
(match r24 with
| (p17, p18) =>
some (p18, p17))
noncomputable def g38_l0 (a0 : List Int) (s : Int × Int) : Option ((Int × Int) ⊕ (Int ⊕ Int)) :=
match s with
| (p5, p6) =>
if (decide (p6 < (a0.length : Int))) = true then
(idx a0 p6).bind fun y15 =>
if (y15 != p5) = true then
some (.inr (.inr (-1)))
else
some (.inl ((IntKind.i64.wrap (p5 + 1)), (IntKind.i64.wrap (p6 + 1))))
else
some (.inr (.inl p5))
noncomputable def g38 (a0 : List Int) (a1 : Int) : Option Int :=
(iter (g38_l0 a0) (a1, 0)).bind fun r18 =>
(match r18 with
| .inl p13 =>
some p13
| .inr q => some q)
noncomputable def g276 (a0 : List UInt8) (a1 : Int) : Option Int :=
if (decide ((IntKind.i64.wrap (a1 - (a0.length : Int))) < 0)) = true then
some (-1)
else
some (IntKind.i64.wrap (a1 - (a0.length : Int)))
noncomputable def g334 (a0 : DIssued) (a1 : Int) : Option Int :=
if (decide ((IntKind.i64.wrap (a1 - (a0.subject.length : Int))) < 0)) = true then
some (-1)
else
some (IntKind.i64.wrap (a1 - (a0.subject.length : Int)))
noncomputable def g277_l0 (a0 : List DIssued) (s : Int × Int) : Option ((Int × Int) ⊕ (Int ⊕ Int)) :=
match s with
| (p8, p9) =>
if (decide (p9 < (a0.length : Int))) = true then
(idx a0 p9).bind fun y20 =>
(g334 y20 p8).bind fun r22 =>
if (decide (r22 < 0)) = true then
some (.inr (.inr (-1)))
else
some (.inl (r22, (IntKind.i64.wrap (p9 + 1))))
else
some (.inr (.inl p8))
noncomputable def g277 (a0 : List DIssued) (a1 : Int) : Option Int :=
if (decide ((IntKind.i64.wrap (a1 - (a0.length : Int))) < 0)) = true then
some (-1)
else
(iter (g277_l0 a0) ((IntKind.i64.wrap (a1 - (a0.length : Int))), 0)).bind fun r25 =>
(match r25 with
| .inl p18 =>
some p18
| .inr q => some q)
noncomputable def g223 (a0 : DAuthority) (a1 : Int) : Option Int :=
if (decide ((IntKind.i64.wrap (a1 - (a0.name_.length : Int))) < 0)) = true then
some (-1)
else
(g276 a0.seed (IntKind.i64.wrap (a1 - (a0.name_.length : Int)))).bind fun r2 =>
if (decide (r2 < 0)) = true then
some (-1)
else
if (decide ((IntKind.i64.wrap (r2 - (a0.suffix.length : Int))) < 0)) = true then
some (-1)
else
(g277 a0.list_ (IntKind.i64.wrap (r2 - (a0.suffix.length : Int)))).bind fun r6 =>
if (decide (r6 < 0)) = true then
some (-1)
else
some r6
noncomputable def g231_l0 (a0 : List UInt8) (s : (List UInt8) × Int) : Option (((List UInt8) × Int) ⊕ ((List UInt8))) :=
match s with
| (p10, p11) =>
if (decide (p11 < (a0.length : Int))) = true then
(idx a0 p11).bind fun y23 =>
(idx p10 p11).bind fun y25 =>
(p10[p11.toNat]?).bind fun y27 =>
some (.inl ((p10.set p11.toNat y23), (IntKind.i64.wrap (p11 + 1))))
else
some (.inr p10)
noncomputable def g231 (a0 : List UInt8) : Option (List UInt8) :=
if 0 ≤ (a0.length : Int) then
if (a0.length : Int) * 1 ≤ 140737488355328 then
(iter (g231_l0 a0) ((List.replicate (a0.length : Int).toNat (0 : UInt8)), 0)).bind fun r29 =>
(match r29 with
| p21 =>
some p21)
else none
else none
noncomputable def g336 (a0 : DIssued) : Option DIssued :=
some a0
noncomputable def g280_l0 (a0 : List DIssued) (s : (List DIssued) × Int) : Option (((List DIssued) × Int) ⊕ ((List DIssued))) :=
match s with
| (p14, p15) =>
if (decide (p15 < (a0.length : Int))) = true then
(idx a0 p15).bind fun y29 =>
(g336 y29).bind fun r31 =>
(idx p14 p15).bind fun y33 =>
(p14[p15.toNat]?).bind fun y35 =>
some (.inl ((p14.set p15.toNat r31), (IntKind.i64.wrap (p15 + 1))))
else
some (.inr p14)
noncomputable def g280 (a0 : List DIssued) : Option (List DIssued) :=
if 0 ≤ (a0.length : Int) then
if (a0.length : Int) * 40 ≤ 140737488355328 then
bindv (List.replicate (a0.length : Int).toNat (DIssued.mk 0 0 ([] : List UInt8) false)) fun v3 =>
(iter (g280_l0 a0) (v3, 0)).bind fun r37 =>
(match r37 with
| p27 =>
some p27)
else none
else none
noncomputable def g225 (a0 : DAuthority) : Option DAuthority :=
(g231 a0.seed).bind fun r1 =>
(g280 a0.list_).bind fun r3 =>
some (DAuthority.mk a0.name_ r1 a0.serial a0.number a0.suffix a0.most r3)
noncomputable def g233_l0 (a0 : List UInt8) (a1 : List UInt8) (s : Int) : Option ((Int) ⊕ (Unit ⊕ Bool)) :=
match s with
| p8 =>
if (decide (p8 < (a0.length : Int))) = true then
(idx a0 p8).bind fun y17 =>
(idx a1 p8).bind fun y19 =>
if (((y17).toNat : Int) != ((y19).toNat : Int)) = true then
some (.inr (.inr false))
else
some (.inl (IntKind.i64.wrap (p8 + 1)))
else
some (.inr (.inl ()))
noncomputable def g233 (a0 : List UInt8) (a1 : List UInt8) : Option Bool :=
if ((a0.length : Int) != (a1.length : Int)) = true then
some false
else
(iter (g233_l0 a0 a1) 0).bind fun r22 =>
(match r22 with
| .inl () =>
some true
| .inr q => some q)
noncomputable def g344 (a0 : DIssued) (a1 : DIssued) : Option Bool :=
if (a0.serial != a1.serial) = true then
some false
else
if (a0.to_ != a1.to_) = true then
some false
else
if (!(a0.subject == a1.subject)) = true then
some false
else
if (!(a0.revoked == a1.revoked)) = true then
some false
else
some true
noncomputable def g288_l0 (a0 : List DIssued) (a1 : List DIssued) (s : Int) : Option ((Int) ⊕ (Unit ⊕ Bool)) :=
match s with
| p10 =>
if (decide (p10 < (a0.length : Int))) = true then
(idx a0 p10).bind fun y21 =>
(idx a1 p10).bind fun y23 =>
(g344 y21 y23).bind fun r25 =>
if (!r25) = true then
some (.inr (.inr false))
else
some (.inl (IntKind.i64.wrap (p10 + 1)))
else
some (.inr (.inl ()))
noncomputable def g288 (a0 : List DIssued) (a1 : List DIssued) : Option Bool :=
if ((a0.length : Int) != (a1.length : Int)) = true then
some false
else
(iter (g288_l0 a0 a1) 0).bind fun r28 =>
(match r28 with
| .inl () =>
some true
| .inr q => some q)
noncomputable def g227 (a0 : DAuthority) (a1 : DAuthority) : Option Bool :=
if (!(a0.name_ == a1.name_)) = true then
some false
else
(g233 a0.seed a1.seed).bind fun r2 =>
if (!r2) = true then
some false
else
if (a0.serial != a1.serial) = true then
some false
else
if (a0.number != a1.number) = true then
some false
else
if (!(a0.suffix == a1.suffix)) = true then
some false
else
if (a0.most != a1.most) = true then
some false
else
(g288 a0.list_ a1.list_).bind fun r9 =>
if (!r9) = true then
some false
else
some true
noncomputable def g56 (a0 : Int) (a1 : Int) (a2 : Int) : Option Bool :=
some (bif (decide (a0 ≥ a1)) then (decide (a0 ≤ a2)) else false)
noncomputable def g335 (a0 : UInt8) : Option Bool :=
bindv ((bif (decide (((a0).toNat : Int) ≥ 48)) then (decide (((a0).toNat : Int) ≤ 57)) else false)) fun v1 =>
some v1
noncomputable def g279_l1 (y50 : UInt8) (s : Bool × Int) : Option ((Bool × Int) ⊕ (Bool)) :=
match s with
| (p61, p62) =>
bindv ((decide (p62 < (([32, 39, 40, 41, 43, 44, 45, 46, 47, 58, 61, 63] : List UInt8).length : Int)))) fun v71 =>
if v71 = true then
(if (p61 == false) = true then idx ([32, 39, 40, 41, 43, 44, 45, 46, 47, 58, 61, 63] : List UInt8) p62 else some default).bind fun y74 =>
some (.inl ((bif p61 then true else (((y74).toNat : Int) == ((y50).toNat : Int))), (IntKind.i64.wrap (p62 + 1))))
else
some (.inr p61)
noncomputable def g279_l0 (a0 : List UInt8) (s : Int) : Option ((Int) ⊕ (Unit ⊕ Bool)) :=
match s with
| p24 =>
if (decide (p24 < (a0.length : Int))) = true then
(idx a0 p24).bind fun y50 =>
(g335 y50).bind fun r52 =>
bindv ((bif (bif r52 then true else (bif (decide (((y50).toNat : Int) ≥ 65)) then (decide (((y50).toNat : Int) ≤ 90)) else false)) then true else (bif (decide (((y50).toNat : Int) ≥ 97)) then (decide (((y50).toNat : Int) ≤ 122)) else false))) fun v54 =>
(iter (g279_l1 y50) (v54, 0)).bind fun r76 =>
(match r76 with
| p70 =>
if (!p70) = true then
some (.inr (.inr false))
else
some (.inl (IntKind.i64.wrap (p24 + 1))))
else
some (.inr (.inl ()))
noncomputable def g279 (a0 : List UInt8) : Option Bool :=
(iter (g279_l0 a0) 0).bind fun r79 =>
(match r79 with
| .inl () =>
some true
| .inr q => some q)
noncomputable def g278 (a0 : List UInt8) : Option Bool :=
(if ((bif (decide ((a0.length : Int) > 0)) then (decide ((a0.length : Int) ≤ 40)) else false) == true) = true then g279 a0 else some default).bind fun r1 =>
bindv ((bif (bif (decide ((a0.length : Int) > 0)) then (decide ((a0.length : Int) ≤ 40)) else false) then r1 else false)) fun v3 =>
some v3
noncomputable def g224_l0 (a0 : DAuthority) (s : Int) : Option ((Int) ⊕ (Unit ⊕ Bool)) :=
match s with
| p28 =>
if (decide (p28 < (a0.list_.length : Int))) = true then
(idx a0.list_ p28).bind fun y45 =>
(g56 y45.serial 1 (IntKind.i64.wrap (a0.serial - 1))).bind fun r47 =>
(if (((!r47) == false) && ((decide (p28 > 0)) == true)) = true then idx a0.list_ (IntKind.i64.wrap (p28 - 1)) else some default).bind fun y49 =>
(if ((bif (!r47) then true else (bif (decide (p28 > 0)) then (decide (y49.serial ≥ y45.serial)) else false)) == false) = true then g56 y45.to_ 0 253402300799 else some default).bind fun r51 =>
(if ((bif (bif (!r47) then true else (bif (decide (p28 > 0)) then (decide (y49.serial ≥ y45.serial)) else false)) then true else (!r51)) == false) = true then g278 y45.subject else some default).bind fun r53 =>
bindv ((bif (bif (bif (!r47) then true else (bif (decide (p28 > 0)) then (decide (y49.serial ≥ y45.serial)) else false)) then true else (!r51)) then true else (!r53))) fun v55 =>
if v55 = true then
some (.inr (.inr false))
else
some (.inl (IntKind.i64.wrap (p28 + 1)))
else
some (.inr (.inl ()))
noncomputable def g224 (a0 : DAuthority) : Option Bool :=
(g278 a0.name_).bind fun r1 =>
(if ((bif (!r1) then true else ((a0.seed.length : Int) != 32)) == false) = true then g56 a0.serial 1 1000000 else some default).bind fun r3 =>
(if ((bif (bif (!r1) then true else ((a0.seed.length : Int) != 32)) then true else (!r3)) == false) = true then g56 a0.number 1 1000000 else some default).bind fun r5 =>
(if ((bif (bif (bif (bif (!r1) then true else ((a0.seed.length : Int) != 32)) then true else (!r3)) then true else (!r5)) then true else (decide ((a0.suffix.length : Int) > 40))) == false) = true then g279 a0.suffix else some default).bind fun r7 =>
(if ((bif (bif (bif (bif (bif (!r1) then true else ((a0.seed.length : Int) != 32)) then true else (!r3)) then true else (!r5)) then true else (decide ((a0.suffix.length : Int) > 40))) then true else (!r7)) == false) = true then g56 a0.most 1 253402300799 else some default).bind fun r9 =>
bindv ((bif (bif (bif (bif (bif (bif (bif (!r1) then true else ((a0.seed.length : Int) != 32)) then true else (!r3)) then true else (!r5)) then true else (decide ((a0.suffix.length : Int) > 40))) then true else (!r7)) then true else (!r9)) then true else (decide ((a0.list_.length : Int) > 40)))) fun v11 =>
if v11 = true then
some false
else
(iter (g224_l0 a0) 0).bind fun r58 =>
(match r58 with
| .inl () =>
some true
| .inr q => some q)
noncomputable def g299_j0 (p12 : Int) (p35 : List Int) : Option (((List Int) × Int) ⊕ ((List Int))) :=
some (.inl (p35, (IntKind.i64.wrap (p12 + 1))))
noncomputable def g299_l0 (a0 : DAuthority) (a1 : Int) (s : (List Int) × Int) : Option (((List Int) × Int) ⊕ ((List Int))) :=
match s with
| (p11, p12) =>
if (decide (p12 < (a0.list_.length : Int))) = true then
(idx a0.list_ p12).bind fun y37 =>
(if (y37.revoked == true) = true then idx a0.list_ p12 else some default).bind fun y39 =>
if (bif y37.revoked then (decide (y39.to_ ≥ a1)) else false) = true then
(idx a0.list_ p12).bind fun y42 =>
if (p11.length + ([y42.serial] : List Int).length) * 8 ≤ 140737488355328 then
g299_j0 p12 (p11 ++ ([y42.serial] : List Int))
else none
else
g299_j0 p12 p11
else
some (.inr p11)
noncomputable def g299 (a0 : DAuthority) (a1 : Int) : Option (List Int) :=
(iter (g299_l0 a0 a1) (([] : List Int), 0)).bind fun r45 =>
(match r45 with
| p25 =>
some p25)
noncomputable def g237 (a0 : DAuthority) (a1 : Int) : Option ((List Int) × Int) :=
(g224 a0).bind fun r1 =>
if (!r1) = true then
some (([] : List Int), 1)
else
(g299 a0 a1).bind fun r4 =>
some (r4, 0)
noncomputable def g63 (a0 : Int) (a1 : Int) (a2 : Int) : Option Bool :=
some (bif (decide (a1 ≤ a0)) then (decide (a0 ≤ a2)) else false)
noncomputable def g58 (a0 : Int) : Option Bool :=
(g63 a0 1 1000000).bind fun r1 =>
some r1
noncomputable def g59_l0 (a0 : List Int) (a1 : Int) (a2 : Int) (s : Int) : Option ((Int) ⊕ (Unit ⊕ Bool)) :=
match s with
| p11 =>
if (decide (p11 < (a0.length : Int))) = true then
(idx a0 p11).bind fun y24 =>
(g63 y24 a1 a2).bind fun r26 =>
(if (((!r26) == false) && ((decide (p11 > 0)) == true)) = true then idx a0 (IntKind.i64.wrap (p11 - 1)) else some default).bind fun y28 =>
bindv ((bif (!r26) then true else (bif (decide (p11 > 0)) then (decide (y28 ≥ y24)) else false))) fun v30 =>
if v30 = true then
some (.inr (.inr false))
else
some (.inl (IntKind.i64.wrap (p11 + 1)))
else
some (.inr (.inl ()))
noncomputable def g59 (a0 : List Int) (a1 : Int) (a2 : Int) : Option Bool :=
(iter (g59_l0 a0 a1 a2) 0).bind fun r33 =>
(match r33 with
| .inl () =>
some true
| .inr q => some q)
noncomputable def g373_l0 (a0 : List UInt8) (is1 : UInt8 → Option Bool) (s : Int) : Option ((Int) ⊕ (Unit ⊕ Int)) :=
match s with
| p7 =>
if (decide (p7 < (a0.length : Int))) = true then
(idx a0 p7).bind fun y16 =>
(is1 y16).bind fun r18 =>
if r18 = true then
some (.inr (.inr p7))
else
some (.inl (IntKind.i64.wrap (p7 + 1)))
else
some (.inr (.inl ()))
noncomputable def g373 (a0 : List UInt8) (is1 : UInt8 → Option Bool) : Option Int :=
(iter (g373_l0 a0 is1) 0).bind fun r21 =>
(match r21 with
| .inl () =>
some (-1)
| .inr q => some q)
noncomputable def g368 (a0 : List UInt8) (is1 : UInt8 → Option Bool) : Option Bool :=
(g373 a0 is1).bind fun r1 =>
some (decide (r1 ≥ 0))
noncomputable def g369 (a0 : UInt8) (is1 : UInt8 → Option Bool) : Option Bool :=
(is1 a0).bind fun r1 =>
some (!r1)
noncomputable def g337 (a0 : List UInt8) (is1 : UInt8 → Option Bool) : Option Bool :=
(g368 a0 (fun z369_0 => g369 z369_0 is1)).bind fun r1 =>
some (!r1)
noncomputable def g339 (a0 : UInt8) : Option Bool :=
bindv ((bif (bif (decide (((a0).toNat : Int) ≥ 97)) then (decide (((a0).toNat : Int) ≤ 122)) else false) then true else (bif (decide (((a0).toNat : Int) ≥ 65)) then (decide (((a0).toNat : Int) ≤ 90)) else false))) fun v1 =>
some v1
noncomputable def g340 (a0 : UInt8) : Option Bool :=
bindv ((bif (decide (((a0).toNat : Int) ≥ 48)) then (decide (((a0).toNat : Int) ≤ 57)) else false)) fun v1 =>
some v1
noncomputable def g370 (a0 : List UInt8) (a1 : UInt8) : Option Int :=
some (byteAt a0 ((a1).toNat : Int))
noncomputable def g341 (a0 : List UInt8) (a1 : UInt8) : Option Int :=
(g370 a0 a1).bind fun r1 =>
some r1
noncomputable def g338 (a0 : UInt8) : Option Bool :=
(g339 a0).bind fun r1 =>
(if (r1 == false) = true then g340 a0 else some default).bind fun r3 =>
(if ((bif r1 then true else r3) == false) = true then g341 ([39, 40, 41, 43, 44, 45, 46, 47, 58, 61, 63, 32] : List UInt8) a0 else some default).bind fun r5 =>
some (bif (bif r1 then true else r3) then true else (decide (r5 ≥ 0)))
noncomputable def g283 (a0 : List UInt8) : Option Bool :=
(g337 a0 (fun z338_0 => g338 z338_0)).bind fun r1 =>
some r1
noncomputable def g281 (a0 : List UInt8) : Option Bool :=
(g63 (a0.length : Int) 1 40).bind fun r1 =>
(if (r1 == true) = true then g283 a0 else some default).bind fun r3 =>
some (bif r1 then r3 else false)
noncomputable def g282 (a0 : List UInt8) : Option Bool :=
some ((a0.length : Int) == 32)
noncomputable def g284_l0 (a0 : List DIssued) (s : (List Int) × Int) : Option (((List Int) × Int) ⊕ ((List Int))) :=
match s with
| (p5, p6) =>
if (decide (p6 < (a0.length : Int))) = true then
(idx a0 p6).bind fun y15 =>
if (p5.length + ([y15.serial] : List Int).length) * 8 ≤ 140737488355328 then
some (.inl ((p5 ++ ([y15.serial] : List Int)), (IntKind.i64.wrap (p6 + 1))))
else none
else
some (.inr p5)
noncomputable def g284 (a0 : List DIssued) : Option (List Int) :=
(iter (g284_l0 a0) ([], 0)).bind fun r18 =>
(match r18 with
| p13 =>
some p13)
noncomputable def g371_l0 (a0 : List DIssued) (is1 : DIssued → Option Bool) (s : Int) : Option ((Int) ⊕ (Unit ⊕ Int)) :=
match s with
| p7 =>
if (decide (p7 < (a0.length : Int))) = true then
(idx a0 p7).bind fun y16 =>
(is1 y16).bind fun r18 =>
if r18 = true then
some (.inr (.inr p7))
else
some (.inl (IntKind.i64.wrap (p7 + 1)))
else
some (.inr (.inl ()))
noncomputable def g371 (a0 : List DIssued) (is1 : DIssued → Option Bool) : Option Int :=
(iter (g371_l0 a0 is1) 0).bind fun r21 =>
(match r21 with
| .inl () =>
some (-1)
| .inr q => some q)
noncomputable def g342 (a0 : List DIssued) (is1 : DIssued → Option Bool) : Option Bool :=
(g371 a0 is1).bind fun r1 =>
some (decide (r1 ≥ 0))
noncomputable def g343 (a0 : DIssued) (is1 : DIssued → Option Bool) : Option Bool :=
(is1 a0).bind fun r1 =>
some (!r1)
noncomputable def g285 (a0 : List DIssued) (is1 : DIssued → Option Bool) : Option Bool :=
(g342 a0 (fun z343_0 => g343 z343_0 is1)).bind fun r1 =>
some (!r1)
noncomputable def g287 (a0 : Int) : Option Bool :=
(g63 a0 0 253402300799).bind fun r1 =>
some r1
noncomputable def g286 (a0 : DIssued) : Option Bool :=
(g287 a0.to_).bind fun r1 =>
(if (r1 == true) = true then g281 a0.subject else some default).bind fun r3 =>
some (bif r1 then r3 else false)
noncomputable def g226 (a0 : DAuthority) : Option Bool :=
(g281 a0.name_).bind fun r1 =>
(if (r1 == true) = true then g282 a0.seed else some default).bind fun r3 =>
(if ((bif r1 then r3 else false) == true) = true then g58 a0.serial else some default).bind fun r5 =>
(if ((bif (bif r1 then r3 else false) then r5 else false) == true) = true then g58 a0.number else some default).bind fun r7 =>
(if ((bif (bif (bif (bif r1 then r3 else false) then r5 else false) then r7 else false) then (decide ((a0.suffix.length : Int) ≤ 40)) else false) == true) = true then g283 a0.suffix else some default).bind fun r9 =>
(if ((bif (bif (bif (bif (bif r1 then r3 else false) then r5 else false) then r7 else false) then (decide ((a0.suffix.length : Int) ≤ 40)) else false) then r9 else false) == true) = true then g63 a0.most 1 253402300799 else some default).bind fun r11 =>
(if ((bif (bif (bif (bif (bif (bif (bif r1 then r3 else false) then r5 else false) then r7 else false) then (decide ((a0.suffix.length : Int) ≤ 40)) else false) then r9 else false) then r11 else false) then (decide ((a0.list_.length : Int) ≤ 40)) else false) == true) = true then g284 a0.list_ else some default).bind fun r13 =>
(if ((bif (bif (bif (bif (bif (bif (bif r1 then r3 else false) then r5 else false) then r7 else false) then (decide ((a0.suffix.length : Int) ≤ 40)) else false) then r9 else false) then r11 else false) then (decide ((a0.list_.length : Int) ≤ 40)) else false) == true) = true then g59 r13 1 (IntKind.i64.wrap (a0.serial - 1)) else some default).bind fun r15 =>
(if ((bif (bif (bif (bif (bif (bif (bif (bif r1 then r3 else false) then r5 else false) then r7 else false) then (decide ((a0.suffix.length : Int) ≤ 40)) else false) then r9 else false) then r11 else false) then (decide ((a0.list_.length : Int) ≤ 40)) else false) then r15 else false) == true) = true then g285 a0.list_ (fun z286_0 => g286 z286_0) else some default).bind fun r17 =>
bindv ((bif (bif (bif (bif (bif (bif (bif (bif (bif r1 then r3 else false) then r5 else false) then r7 else false) then (decide ((a0.suffix.length : Int) ≤ 40)) else false) then r9 else false) then r11 else false) then (decide ((a0.list_.length : Int) ≤ 40)) else false) then r15 else false) then r17 else false)) fun v19 =>
some v19
noncomputable def g348_j0 (p20 : Int) (p52 : List DIssued) (p53 : Int) : Option (((List DIssued) × Int × Int) ⊕ ((List DIssued) × Int)) :=
some (.inl (p52, p53, (IntKind.i64.wrap (p20 + 1))))
noncomputable def g348_l0 (is1 : DIssued → Option Bool) (s : (List DIssued) × Int × Int) : Option (((List DIssued) × Int × Int) ⊕ ((List DIssued) × Int)) :=
match s with
| (p18, p19, p20) =>
if (decide (p20 < (p18.length : Int))) = true then
(idx p18 p20).bind fun y55 =>
(p18[p20.toNat]?).bind fun y57 =>
(is1 y57).bind fun r59 =>
if (!r59) = true then
(idx p18 p19).bind fun y62 =>
(p18[p19.toNat]?).bind fun y64 =>
g348_j0 p20 (p18.set p19.toNat y57) (IntKind.i64.wrap (p19 + 1))
else
g348_j0 p20 p18 p19
else
some (.inr (p18, p19))
noncomputable def g348 (a0 : List DIssued) (is1 : DIssued → Option Bool) : Option (List DIssued) :=
(g371 a0 is1).bind fun r1 =>
if (r1 == (-1)) = true then
some a0
else
(iter (g348_l0 is1) (a0, r1, (IntKind.i64.wrap (r1 + 1)))).bind fun r66 =>
(match r66 with
| (p38, p39) =>
(slc p38 p39 (p38.length : Int)).bind fun s68 =>
(slc (ovl p38 p39.toNat (List.replicate s68.length (DIssued.mk 0 0 ([] : List UInt8) false))) 0 p39).bind fun s70 =>
some s70)
def g349 (a0 : List DIssued) : Option (List DIssued) := if ([] : List DIssued).length + a0.length ≤ 3518437208883 then some a0 else none
noncomputable def g350 (a0 : DIssued) (a1 : Int) : Option Bool :=
some (bif (!a0.revoked) then true else (decide (a0.to_ < a1)))
noncomputable def g300 (a0 : DAuthority) (a1 : Int) : Option (List Int) :=
(g349 a0.list_).bind fun r1 =>
(g348 r1 (fun z350_0 => g350 z350_0 a1)).bind fun r3 =>
(g284 r3).bind fun r5 =>
some r5
noncomputable def g238 (a0 : DAuthority) (a1 : Int) : Option ((List Int) × Int) :=
(g226 a0).bind fun r1 =>
if (!r1) = true then
some ([], 1)
else
(g300 a0 a1).bind fun r4 =>
some (r4, 0)
noncomputable def g235_l0  (s : (List UInt8) × Int × Int) : Option (((List UInt8) × Int × Int) ⊕ ((List UInt8) × Int)) :=
match s with
| (p6, p7, p8) =>
if (decide (p8 < (p6.length : Int))) = true then
(idx p6 p8).bind fun y20 =>
(p6[p8.toNat]?).bind fun y22 =>
some (.inl ((p6.set p8.toNat (b8 p7)), (IntKind.i64.wrap (p7 + 1)), (IntKind.i64.wrap (p8 + 1))))
else
some (.inr (p6, p7))
noncomputable def g235 (a0 : List UInt8) (a1 : Int) : Option (Int × (List UInt8)) :=
(iter (g235_l0) (a0, a1, 0)).bind fun r24 =>
(match r24 with
| (p17, p18) =>
some (p18, p17))
noncomputable def g316_l0  (s : Int × (List UInt8)) : Option ((Int × (List UInt8)) ⊕ ((List UInt8))) :=
match s with
| (p6, p7) =>
if (decide (p6 > 0)) = true then
if ([b8 (IntKind.i64.wrap (48 + ((p6).tmod 10)))] : List UInt8).length + p7.length ≤ 9223372036854775807 then
some (.inl ((IntKind.i64.wrap ((p6).tdiv 10)), (([b8 (IntKind.i64.wrap (48 + ((p6).tmod 10)))] : List UInt8) ++ p7)))
else none
else
some (.inr p7)
noncomputable def g316 (a0 : Int) : Option (List UInt8) :=
if (decide (a0 ≤ 0)) = true then
some ([109, 48] : List UInt8)
else
(iter (g316_l0) (a0, ([] : List UInt8))).bind fun r15 =>
(match r15 with
| p12 =>
if ([109] : List UInt8).length + p12.length ≤ 9223372036854775807 then
some (([109] : List UInt8) ++ p12)
else none)
noncomputable def g301_l0  (s : (List DIssued) × Int × Int) : Option (((List DIssued) × Int × Int) ⊕ ((List DIssued) × Int)) :=
match s with
| (p26, p27, p28) =>
if (decide (p28 < (p26.length : Int))) = true then
(idx p26 p28).bind fun y60 =>
(p26[p28.toNat]?).bind fun y62 =>
(idx (p26.set p28.toNat (DIssued.mk p27 y62.to_ y62.subject y62.revoked)) p28).bind fun y64 =>
((p26.set p28.toNat (DIssued.mk p27 y62.to_ y62.subject y62.revoked))[p28.toNat]?).bind fun y66 =>
bindv ((p26.set p28.toNat (DIssued.mk p27 y62.to_ y62.subject y62.revoked)).set p28.toNat (DIssued.mk y66.serial (IntKind.i64.wrap (p27 + 1)) y66.subject y66.revoked)) fun v68 =>
(g316 (IntKind.i64.wrap ((IntKind.i64.wrap (p27 + 1)) + 1))).bind fun r70 =>
(idx v68 p28).bind fun y72 =>
(v68[p28.toNat]?).bind fun y74 =>
bindv (IntKind.i64.wrap ((IntKind.i64.wrap ((IntKind.i64.wrap (p27 + 1)) + 1)) + 1)) fun v76 =>
(idx (v68.set p28.toNat (DIssued.mk y74.serial y74.to_ r70 y74.revoked)) p28).bind fun y78 =>
((v68.set p28.toNat (DIssued.mk y74.serial y74.to_ r70 y74.revoked))[p28.toNat]?).bind fun y80 =>
bindv ((v68.set p28.toNat (DIssued.mk y74.serial y74.to_ r70 y74.revoked)).set p28.toNat (DIssued.mk y80.serial y80.to_ y80.subject (((v76).tmod 3) == 0))) fun v82 =>
some (.inl (v82, (IntKind.i64.wrap (v76 + 1)), (IntKind.i64.wrap (p28 + 1))))
else
some (.inr (p26, p27))
noncomputable def g301 (a0 : List DIssued) (a1 : Int) : Option (Int × (List DIssued)) :=
(iter (g301_l0) (a0, a1, 0)).bind fun r84 =>
(match r84 with
| (p57, p58) =>
some (p58, p57))
noncomputable def g239 (a0 : DAuthority) (a1 : Int) : Option (Int × (List UInt8) × (List DIssued)) :=
(g235 a0.seed a1).bind fun r1 =>
if r1.2.length = a0.seed.length then
(g301 a0.list_ r1.1).bind fun r4 =>
if r4.2.length = a0.list_.length then
some (r4.1, r1.2, r4.2)
else none
else none
noncomputable def g205 (a0 : DAuthority) (a1 : Int) : Option Bool :=
(g223 a0 1048576).bind fun r1 =>
if (decide (r1 < 0)) = true then
some true
else
(g225 a0).bind fun r4 =>
(g237 r4 a1).bind fun r6 =>
(g225 a0).bind fun r8 =>
(g238 r8 a1).bind fun r10 =>
(g36 r10.1 r6.1).bind fun r12 =>
if (bif (!r12) then true else (r10.2 != r6.2)) = true then
some false
else
(g225 a0).bind fun r15 =>
(g227 r8 r15).bind fun r17 =>
if (!r17) = true then
some false
else
(g239 r8 1).bind fun r20 =>
if r20.2.1.length = r8.seed.length then
if r20.2.2.length = r8.list_.length then
(if ((decide (r20.1 < 0)) == false) = true then g36 r10.1 r6.1 else some default).bind fun r24 =>
bindv ((bif (bif (decide (r20.1 < 0)) then true else (!r24)) then true else (r10.2 != r6.2))) fun v26 =>
if v26 = true then
some false
else
(g37 r10.1 1).bind fun r29 =>
if r29.2.length = r10.1.length then
(g38 r29.2 1).bind fun r32 =>
if (decide (r32 < 0)) = true then
some false
else
if (r32 != r29.1) = true then
some false
else
(g225 a0).bind fun r36 =>
(g238 r36 a1).bind fun r38 =>
(g36 r38.1 r6.1).bind fun r40 =>
if (bif (!r40) then true else (r38.2 != r6.2)) = true then
some false
else
(g38 r29.2 1).bind fun r43 =>
if (decide (r43 < 0)) = true then
some false
else
if (r43 != r29.1) = true then
some false
else
some true
else none
else none
else none
noncomputable def g203 (a0 : DAuthority) : Option Bool :=
(g223 a0 1048576).bind fun r1 =>
if (decide (r1 < 0)) = true then
some true
else
(g225 a0).bind fun r4 =>
(g224 r4).bind fun r6 =>
(g225 a0).bind fun r8 =>
(g226 r8).bind fun r10 =>
if (!(r10 == r6)) = true then
some false
else
(g225 a0).bind fun r13 =>
(g227 r8 r13).bind fun r15 =>
if (!r15) = true then
some false
else
some true
end Go.Ev
