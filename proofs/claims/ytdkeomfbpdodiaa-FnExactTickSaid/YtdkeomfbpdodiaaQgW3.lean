/- The walks of functions: the code comes to the answers that QgD tells. Written by a program of ours. -/
import Derived.Test.YtdkeomfbpdodiaaQgW2
set_option linter.all false
set_option maxHeartbeats 4000000
set_option linter.unusedVariables false
set_option maxRecDepth 100000
namespace Go.Ev

/- slices.pdqsortCmpFunc[loop.example/g00149/impl.Lease] -/
def c137_r0 : List Ins := [⟨some 10, .p (.mv (.c (.bool true))), none⟩]
def c137_r1 : List Ins := [⟨some 11, .p (.mv (.c (.bool true))), none⟩]
def c137_r2 : List Ins := [⟨some 21, .p (.mv (.t 2)), none⟩,
⟨some 22, .p (.mv (.t 1)), none⟩,
⟨some 23, .p (.bin .sub (.t 21) (.t 22)), none⟩,
⟨some 12, .p (.mv (.t 23)), none⟩]
def c137_r3 : List Ins := [⟨some 24, .p (.mv (.t 12)), none⟩,
⟨some 25, .p (.bin .leq (.t 24) (.c (iV 12))), none⟩]
def c137_r4 : List Ins := [⟨some 26, .p (.mv (.t 0)), none⟩,
⟨some 27, .p (.mv (.t 1)), none⟩,
⟨some 28, .p (.mv (.t 2)), none⟩,
⟨some 29, .p (.mv (.t 4)), none⟩,
⟨some 30, .call 148 [(.t 26), (.t 27), (.t 28), (.t 29)], none⟩]
def c137_r5 : List Ins := [⟨some 31, .p (.mv (.t 3)), none⟩,
⟨some 32, .p (.bin .eql (.t 31) (.c (iV 0))), none⟩]
def c137_r6 : List Ins := [⟨some 33, .p (.mv (.t 0)), none⟩,
⟨some 34, .p (.mv (.t 1)), none⟩,
⟨some 35, .p (.mv (.t 2)), none⟩,
⟨some 36, .p (.mv (.t 4)), none⟩,
⟨some 37, .call 149 [(.t 33), (.t 34), (.t 35), (.t 36)], none⟩]
def c137_r7 : List Ins := [⟨some 38, .p (.mv (.t 10)), none⟩,
⟨some 39, .p (.un .not (.t 38)), none⟩]
def c137_r8 : List Ins := [⟨some 40, .p (.mv (.t 0)), none⟩,
⟨some 41, .p (.mv (.t 1)), none⟩,
⟨some 42, .p (.mv (.t 2)), none⟩,
⟨some 43, .p (.mv (.t 4)), none⟩,
⟨some 44, .call 150 [(.t 40), (.t 41), (.t 42), (.t 43)], none⟩]
def c137_r9 : List Ins := [⟨some 45, .p (.mv (.t 3)), none⟩,
⟨some 46, .p (.bin .sub (.t 45) (.c (iV 1))), none⟩,
⟨some 3, .p (.mv (.t 46)), none⟩]
def c137_r10 : List Ins := [⟨some 48, .p (.mv (.t 0)), none⟩,
⟨some 49, .p (.mv (.t 1)), none⟩,
⟨some 50, .p (.mv (.t 2)), none⟩,
⟨some 51, .p (.mv (.t 4)), none⟩,
⟨some 52, .call 151 [(.t 48), (.t 49), (.t 50), (.t 51)], none⟩,
⟨some 47, .p (.mv (.t 52)), none⟩,
⟨some 53, .p (.ext (.t 47) 0), none⟩,
⟨some 54, .p (.ext (.t 47) 1), none⟩,
⟨some 13, .p (.mv (.t 53)), none⟩,
⟨some 14, .p (.mv (.t 54)), none⟩]
def c137_r11 : List Ins := [⟨some 55, .p (.mv (.t 14)), none⟩,
⟨some 56, .p (.bin .eql (.t 55) (.c (iV 2))), none⟩]
def c137_r12 : List Ins := [⟨some 57, .p (.mv (.t 0)), none⟩,
⟨some 58, .p (.mv (.t 1)), none⟩,
⟨some 59, .p (.mv (.t 2)), none⟩,
⟨some 60, .p (.mv (.t 4)), none⟩,
⟨some 61, .call 152 [(.t 57), (.t 58), (.t 59), (.t 60)], none⟩]
def c137_r13 : List Ins := [⟨some 62, .p (.mv (.t 2)), none⟩,
⟨some 63, .p (.bin .sub (.t 62) (.c (iV 1))), none⟩,
⟨some 64, .p (.mv (.t 13)), none⟩,
⟨some 65, .p (.mv (.t 1)), none⟩,
⟨some 66, .p (.bin .sub (.t 64) (.t 65)), none⟩,
⟨some 67, .p (.bin .sub (.t 63) (.t 66)), none⟩,
⟨some 13, .p (.mv (.t 67)), none⟩]
def c137_r14 : List Ins := [⟨some 14, .p (.mv (.c (iV 1))), none⟩]
def c137_r15 : List Ins := [⟨some 68, .p (.mv (.t 10)), none⟩,
⟨some 69, .p (.mv (.t 68)), none⟩,
⟨some 70, .p (.mv (.t 11)), some (69, true)⟩,
⟨some 71, .pick (.t 69) (.t 70) (.c (.bool false)), none⟩,
⟨some 72, .p (.mv (.t 71)), none⟩,
⟨some 73, .p (.mv (.t 14)), some (72, true)⟩,
⟨some 74, .p (.bin .eql (.t 73) (.c (iV 1))), some (72, true)⟩,
⟨some 75, .pick (.t 72) (.t 74) (.c (.bool false)), none⟩]
def c137_r16 : List Ins := [⟨some 76, .p (.mv (.t 0)), none⟩,
⟨some 77, .p (.mv (.t 1)), none⟩,
⟨some 78, .p (.mv (.t 2)), none⟩,
⟨some 79, .p (.mv (.t 4)), none⟩,
⟨some 80, .call 153 [(.t 76), (.t 77), (.t 78), (.t 79)], none⟩]
def c137_r17 : DP := (.take ⟨some 81, .p (.mv (.t 1)), none⟩
(.take ⟨some 82, .p (.bin .gtr (.t 81) (.c (iV 0))), none⟩
(.take ⟨some 83, .p (.mv (.t 82)), none⟩
(.take ⟨some 84, .p (.mv (.t 4)), some (83, true)⟩
(.take ⟨some 85, .p (.mv (.t 0)), some (83, true)⟩
(.take ⟨some 86, .p (.mv (.t 1)), some (83, true)⟩
(.take ⟨some 87, .p (.bin .sub (.t 86) (.c (iV 1))), some (83, true)⟩
(.take ⟨some 88, .p (.idxA (.t 85) (.t 87) 4), some (83, true)⟩
(.take ⟨some 89, .p (.load (.t 88) 4 true), some (83, true)⟩
(.take ⟨some 90, .p (.mv (.t 0)), some (83, true)⟩
(.take ⟨some 91, .p (.mv (.t 13)), some (83, true)⟩
(.take ⟨some 92, .p (.idxA (.t 90) (.t 91) 4), some (83, true)⟩
(.take ⟨some 93, .p (.load (.t 92) 4 true), some (83, true)⟩
(.alt [] ⟨some 94, .callv (.t 84) [(.t 89), (.t 93)], some (83, true)⟩
(.take ⟨some 95, .p (.bin .lss (.t 94) (.c (iV 0))), some (83, true)⟩
(.take ⟨some 96, .p (.un .not (.t 95)), some (83, true)⟩
(.take ⟨some 97, .pick (.t 83) (.t 96) (.c (.bool false)), none⟩
.fin)))
.stop))))))))))))))
def c137_r18 : List Ins := [⟨some 98, .p (.mv (.t 0)), none⟩,
⟨some 99, .p (.mv (.t 1)), none⟩,
⟨some 100, .p (.mv (.t 2)), none⟩,
⟨some 101, .p (.mv (.t 13)), none⟩,
⟨some 102, .p (.mv (.t 4)), none⟩,
⟨some 103, .call 154 [(.t 98), (.t 99), (.t 100), (.t 101), (.t 102)], none⟩,
⟨some 15, .p (.mv (.t 103)), none⟩]
def c137_r19 : List Ins := [⟨some 104, .p (.mv (.t 15)), none⟩,
⟨some 1, .p (.mv (.t 104)), none⟩]
def c137_r20 : List Ins := [⟨some 106, .p (.mv (.t 0)), none⟩,
⟨some 107, .p (.mv (.t 1)), none⟩,
⟨some 108, .p (.mv (.t 2)), none⟩,
⟨some 109, .p (.mv (.t 13)), none⟩,
⟨some 110, .p (.mv (.t 4)), none⟩,
⟨some 111, .call 155 [(.t 106), (.t 107), (.t 108), (.t 109), (.t 110)], none⟩,
⟨some 105, .p (.mv (.t 111)), none⟩,
⟨some 112, .p (.ext (.t 105) 0), none⟩,
⟨some 113, .p (.ext (.t 105) 1), none⟩,
⟨some 16, .p (.mv (.t 112)), none⟩,
⟨some 17, .p (.mv (.t 113)), none⟩]
def c137_r21 : List Ins := [⟨some 114, .p (.mv (.t 17)), none⟩,
⟨some 11, .p (.mv (.t 114)), none⟩]
def c137_r22 : List Ins := [⟨some 115, .p (.mv (.t 16)), none⟩,
⟨some 116, .p (.mv (.t 1)), none⟩,
⟨some 117, .p (.bin .sub (.t 115) (.t 116)), none⟩,
⟨some 118, .p (.mv (.t 2)), none⟩,
⟨some 119, .p (.mv (.t 16)), none⟩,
⟨some 120, .p (.bin .sub (.t 118) (.t 119)), none⟩,
⟨some 18, .p (.mv (.t 117)), none⟩,
⟨some 19, .p (.mv (.t 120)), none⟩]
def c137_r23 : List Ins := [⟨some 121, .p (.mv (.t 12)), none⟩,
⟨some 122, .p (.bin .quo (.t 121) (.c (iV 8))), none⟩,
⟨some 20, .p (.mv (.t 122)), none⟩]
def c137_r24 : List Ins := [⟨some 123, .p (.mv (.t 18)), none⟩,
⟨some 124, .p (.mv (.t 19)), none⟩,
⟨some 125, .p (.bin .lss (.t 123) (.t 124)), none⟩]
def c137_r25 : List Ins := [⟨some 126, .p (.mv (.t 18)), none⟩,
⟨some 127, .p (.mv (.t 20)), none⟩,
⟨some 128, .p (.bin .geq (.t 126) (.t 127)), none⟩,
⟨some 10, .p (.mv (.t 128)), none⟩]
def c137_r26 : List Ins := [⟨some 129, .p (.mv (.t 0)), none⟩,
⟨some 130, .p (.mv (.t 1)), none⟩,
⟨some 131, .p (.mv (.t 16)), none⟩,
⟨some 132, .p (.mv (.t 3)), none⟩,
⟨some 133, .p (.mv (.t 4)), none⟩,
⟨some 134, .call 137 [(.t 129), (.t 130), (.t 131), (.t 132), (.t 133)], none⟩]
def c137_r27 : List Ins := [⟨some 135, .p (.mv (.t 16)), none⟩,
⟨some 136, .p (.bin .add (.t 135) (.c (iV 1))), none⟩,
⟨some 1, .p (.mv (.t 136)), none⟩]
def c137_r28 : List Ins := [⟨some 137, .p (.mv (.t 19)), none⟩,
⟨some 138, .p (.mv (.t 20)), none⟩,
⟨some 139, .p (.bin .geq (.t 137) (.t 138)), none⟩,
⟨some 10, .p (.mv (.t 139)), none⟩]
def c137_r29 : List Ins := [⟨some 140, .p (.mv (.t 0)), none⟩,
⟨some 141, .p (.mv (.t 16)), none⟩,
⟨some 142, .p (.bin .add (.t 141) (.c (iV 1))), none⟩,
⟨some 143, .p (.mv (.t 2)), none⟩,
⟨some 144, .p (.mv (.t 3)), none⟩,
⟨some 145, .p (.mv (.t 4)), none⟩,
⟨some 146, .call 137 [(.t 140), (.t 142), (.t 143), (.t 144), (.t 145)], none⟩]
def c137_r30 : List Ins := [⟨some 147, .p (.mv (.t 16)), none⟩,
⟨some 2, .p (.mv (.t 147)), none⟩]
def c137_l0 : IR := (.block 1 (.seq (.reg c137_r2) (.seq (.seq (.reg c137_r3) (.ite (.t 25) (.seq (.reg c137_r4) .ret) .skip)) (.seq (.seq (.reg c137_r5) (.ite (.t 32) (.seq (.reg c137_r6) .ret) .skip)) (.seq (.seq (.reg c137_r7) (.ite (.t 39) (.seq (.reg c137_r8) (.reg c137_r9)) .skip)) (.seq (.reg c137_r10) (.seq (.seq (.reg c137_r11) (.ite (.t 56) (.seq (.reg c137_r12) (.seq (.reg c137_r13) (.reg c137_r14))) .skip)) (.seq (.seq (.reg c137_r15) (.ite (.t 75) (.seq (.reg c137_r16) (.ite (.t 80) .ret .skip)) .skip)) (.seq (.seq (.draw c137_r17) (.ite (.t 97) (.seq (.reg c137_r18) (.seq (.reg c137_r19) (.exit 1))) .skip)) (.seq (.reg c137_r20) (.seq (.reg c137_r21) (.seq (.reg c137_r22) (.seq (.reg c137_r23) (.seq (.reg c137_r24) (.ite (.t 125) (.seq (.reg c137_r25) (.seq (.reg c137_r26) (.reg c137_r27))) (.seq (.reg c137_r28) (.seq (.reg c137_r29) (.reg c137_r30))))))))))))))))))
def c137 : XFn := { np := 5, nt := 148, res := [], body := (.seq (.reg c137_r0) (.seq (.reg c137_r1) (.block 0 (.loop c137_l0)))) }
def Kr137 (C : CRel) (rc : (List DLease) → Int → Int → Int → (DLease → DLease → Option Int) → Option (List DLease)) : Prop := ∀ (a0 : List DLease) (a1 : Int) (a2 : Int) (a3 : Int) (f4 : Nat) (k4 : List V) (is4 : DLease → DLease → Option Int) (hs4 : Shut k4) (hf4 : ∀ (x0 : DLease) (x1 : DLease) r, is4 x0 x1 = some r → C f4 ⟨.agg (eDLease x0) :: .agg (eDLease x1) :: k4, []⟩ ⟨iV r, [], []⟩) (r : (List DLease)), rc a0 a1 a2 a3 is4 = some r → C 137 ⟨[.own 2097152 0 4 (a0.map eDLease), iV a1, iV a2, iV a3, .clo f4 k4], []⟩ ⟨.tup [], [], [(0, 4, r.map eDLease)]⟩
def K137 (C : CRel) : Prop := ∀ n, Kr137 C (g137 n)
theorem F137 {C : CRel} (H148 : K148 C) (H149 : K149 C) (H150 : K150 C) (H151 : K151 C) (H152 : K152 C) (H153 : K153 C) (H154 : K154 C) (H155 : K155 C) (rc137 : (List DLease) → Int → Int → Int → (DLease → DLease → Option Int) → Option (List DLease)) (R137 : Kr137 C rc137) (a0 : List DLease) (a1 : Int) (a2 : Int) (a3 : Int) (f4 : Nat) (k4 : List V) (is4 : DLease → DLease → Option Int) (hs4 : Shut k4) (hf4 : ∀ (x0 : DLease) (x1 : DLease) r, is4 x0 x1 = some r → C f4 ⟨.agg (eDLease x0) :: .agg (eDLease x1) :: k4, []⟩ ⟨iV r, [], []⟩) (r : (List DLease)) (h0 : g137_b rc137 a0 a1 a2 a3 is4 = some r) : FnOK C c137 ⟨[.own 2097152 0 4 (a0.map eDLease), iV a1, iV a2, iV a3, .clo f4 k4], []⟩ ⟨.tup [], [], [(0, 4, r.map eDLease)]⟩ := by
 refine fn_ (nl rfl) ?_
 refine seq_ ?_
 refine reg_ ?_
 refine st (mvc_ trivial ?_)
 refine oe_ ?_
 refine wk_ ⟨[(0, .own 2097152 0 4 (a0.map eDLease)), (1, iV a1), (2, iV a2), (3, iV a3), (4, .clo f4 k4), (10, .bool true)], [], []⟩ (fg ⟨rfl, rfl, rfl, rfl, rfl, rfl, trivial⟩ trivial) ?_
 refine seq_ ?_
 refine reg_ ?_
 refine st (mvc_ trivial ?_)
 refine oe_ ?_
 refine wk_ ⟨[(0, .own 2097152 0 4 (a0.map eDLease)), (1, iV a1), (2, iV a2), (3, iV a3), (4, .clo f4 k4), (10, .bool true), (11, .bool true)], [], []⟩ (fg ⟨rfl, rfl, rfl, rfl, rfl, rfl, rfl, trivial⟩ trivial) ?_
 refine block_ ?_
 obtain ⟨r214, e215, h0⟩ := bnd h0
 refine loop_ (R := (fun _ => False)) (g137_l0 is4 rc137) (fun s S => match s with | (p62, p63, p64, p65, p66, p67) => S = ⟨[(0, .own 2097152 0 4 (p62.map eDLease)), (1, iV p63), (2, iV p64), (3, iV p65), (4, .clo f4 k4), (10, .bool p66), (11, .bool p67)], [], []⟩) e215 ⟨[(0, .own 2097152 0 4 (a0.map eDLease)), (1, iV a1), (2, iV a2), (3, iV a3), (4, .clo f4 k4), (10, .bool true), (11, .bool true)], [], []⟩ (fg ⟨rfl, rfl, rfl, rfl, rfl, rfl, rfl, trivial⟩ trivial) rfl 0 (fun h => h.elim fun _ h => h.elim) ?_ ?_
 ·exact fun _ _ _ h => h.elim
 ·rintro ⟨p62, p63, p64, p65, p66, p67⟩ o1 _ K1 rfl h1 hx1 hK1 hE1 hR1
  refine block_ ?_
  refine seq_ ?_
  refine reg_ ?_
  refine st (mv_ rfl trivial ?_)
  refine st (mv_ rfl trivial ?_)
  refine st (c_ (cp_ t3 rfl trivial) ?_)
  refine st (mv_ rfl trivial ?_)
  refine oe_ ?_
  refine wk_ ⟨[(0, .own 2097152 0 4 (p62.map eDLease)), (1, iV p63), (2, iV p64), (3, iV p65), (4, .clo f4 k4), (10, .bool p66), (11, .bool p67), (12, iV (IntKind.i64.wrap (p64 - p63)))], [], []⟩ (fg ⟨rfl, rfl, rfl, rfl, rfl, rfl, rfl, rfl, trivial⟩ trivial) ?_
  refine seq_ ?_
  refine seq_ ?_
  refine reg_ ?_
  refine st (mv_ rfl trivial ?_)
  refine st (c_ (cp_ t3 rfl trivial) ?_)
  refine oe_ ?_
  refine wk_ ⟨[(0, .own 2097152 0 4 (p62.map eDLease)), (1, iV p63), (2, iV p64), (3, iV p65), (4, .clo f4 k4), (10, .bool p66), (11, .bool p67), (12, iV (IntKind.i64.wrap (p64 - p63))), (25, .bool (decide ((IntKind.i64.wrap (p64 - p63)) ≤ 12)))], [], []⟩ (fg ⟨rfl, rfl, rfl, rfl, rfl, rfl, rfl, rfl, rfl, trivial⟩ trivial) ?_
  refine ite_ (cb := (decide ((IntKind.i64.wrap (p64 - p63)) ≤ 12))) rfl (fun c135 => ?_) (fun c135 => ?_)
  ·replace h1 := ip c135 h1
   refine seq_ ?_
   refine reg_ ?_
   refine st (mv_ rfl trivial ?_)
   refine st (mv_ rfl trivial ?_)
   refine st (mv_ rfl trivial ?_)
   refine st (mv_ rfl trivial ?_)
   obtain ⟨r136, e137, h1⟩ := bnd h1
   obtain ⟨c138, h1⟩ := grd h1
   refine st (call1_ [] [2097152] [] false (H148 p62 p63 p64 f4 k4 is4 hs4 hf4 r136 e137) ⟨trivial, trivial, trivial, trivial, trivial⟩ (by kernel_rfl) (congrArg (fun z => Give.mk z []) (mapc1 rfl (mapc1 rfl (mapc1 rfl (mapc1 (clo_sh hs4) rfl))))) (by kernel_rfl) (by kernel_rfl) (fun _ => and_ rfl (and_ (fl2 (fun _ => rfl)) rfl)) ?_)
   refine oe_ ?_
   refine wk_ ⟨[(0, .own 2097152 0 4 (r136.map eDLease))], [], []⟩ (fg ⟨(congrArg (fun z => some ((z : V))) (row_eq c138)), trivial⟩ trivial) ?_
   obtain rfl := Option.some.inj h1
   obtain rfl := hx1 _ rfl
   obtain rfl := Option.some.inj h0
   exact rt_ (hR1 _ (ret_ rfl rfl rfl rfl rfl ⟨⟨rfl, mlen (fun _ => rfl)⟩, trivial⟩))
  ·replace h1 := inb c135 h1
   refine sk_ ?_
   refine wk_ ⟨[(0, .own 2097152 0 4 (p62.map eDLease)), (1, iV p63), (2, iV p64), (3, iV p65), (4, .clo f4 k4), (10, .bool p66), (11, .bool p67), (12, iV (IntKind.i64.wrap (p64 - p63)))], [], []⟩ (fg ⟨rfl, rfl, rfl, rfl, rfl, rfl, rfl, rfl, trivial⟩ trivial) ?_
   refine seq_ ?_
   refine seq_ ?_
   refine reg_ ?_
   refine st (mv_ rfl trivial ?_)
   refine st (c_ (cp_ t3 rfl trivial) ?_)
   refine oe_ ?_
   refine wk_ ⟨[(0, .own 2097152 0 4 (p62.map eDLease)), (1, iV p63), (2, iV p64), (3, iV p65), (4, .clo f4 k4), (10, .bool p66), (11, .bool p67), (12, iV (IntKind.i64.wrap (p64 - p63))), (32, .bool (p65 == 0))], [], []⟩ (fg ⟨rfl, rfl, rfl, rfl, rfl, rfl, rfl, rfl, rfl, trivial⟩ trivial) ?_
   refine ite_ (cb := (p65 == 0)) rfl (fun c139 => ?_) (fun c139 => ?_)
   ·replace h1 := ip c139 h1
    refine seq_ ?_
    refine reg_ ?_
    refine st (mv_ rfl trivial ?_)
    refine st (mv_ rfl trivial ?_)
    refine st (mv_ rfl trivial ?_)
    refine st (mv_ rfl trivial ?_)
    obtain ⟨r140, e141, h1⟩ := bnd h1
    obtain ⟨c142, h1⟩ := grd h1
    refine st (call1_ [] [2097152] [] false (H149 p62 p63 p64 f4 k4 is4 hs4 hf4 r140 e141) ⟨trivial, trivial, trivial, trivial, trivial⟩ (by kernel_rfl) (congrArg (fun z => Give.mk z []) (mapc1 rfl (mapc1 rfl (mapc1 rfl (mapc1 (clo_sh hs4) rfl))))) (by kernel_rfl) (by kernel_rfl) (fun _ => and_ rfl (and_ (fl2 (fun _ => rfl)) rfl)) ?_)
    refine oe_ ?_
    refine wk_ ⟨[(0, .own 2097152 0 4 (r140.map eDLease))], [], []⟩ (fg ⟨(congrArg (fun z => some ((z : V))) (row_eq c142)), trivial⟩ trivial) ?_
    obtain rfl := Option.some.inj h1
    obtain rfl := hx1 _ rfl
    obtain rfl := Option.some.inj h0
    exact rt_ (hR1 _ (ret_ rfl rfl rfl rfl rfl ⟨⟨rfl, mlen (fun _ => rfl)⟩, trivial⟩))
   ·replace h1 := inb c139 h1
    refine sk_ ?_
    refine wk_ ⟨[(0, .own 2097152 0 4 (p62.map eDLease)), (1, iV p63), (2, iV p64), (3, iV p65), (4, .clo f4 k4), (10, .bool p66), (11, .bool p67), (12, iV (IntKind.i64.wrap (p64 - p63)))], [], []⟩ (fg ⟨rfl, rfl, rfl, rfl, rfl, rfl, rfl, rfl, trivial⟩ trivial) ?_
    refine seq_ ?_
    refine seq_ ?_
    refine reg_ ?_
    refine st (mv_ rfl trivial ?_)
    refine st (c_ (cp_ ⟨trivial, trivial⟩ rfl trivial) ?_)
    refine oe_ ?_
    refine wk_ ⟨[(0, .own 2097152 0 4 (p62.map eDLease)), (1, iV p63), (2, iV p64), (3, iV p65), (4, .clo f4 k4), (10, .bool p66), (11, .bool p67), (12, iV (IntKind.i64.wrap (p64 - p63))), (39, .bool (!p66))], [], []⟩ (fg ⟨rfl, rfl, rfl, rfl, rfl, rfl, rfl, rfl, rfl, trivial⟩ trivial) ?_
    refine iteJ (cb := (!p66)) (fun S => ∃ p147 : List DLease, ∃ p148 : Int, S = ⟨[(0, .own 2097152 0 4 (p147.map eDLease)), (1, iV p63), (2, iV p64), (3, iV p148), (4, .clo f4 k4), (10, .bool p66), (11, .bool p67), (12, iV (IntKind.i64.wrap (p64 - p63)))], [], []⟩ ∧ g137_j0 is4 rc137 p63 p64 p66 p67 p147 p148 = some o1) rfl ?_ (fun c210 J209 => ?_) (fun c210 J209 => ?_)
    ·rintro _ ⟨p147, p148, rfl, h1⟩
     refine wk_ ⟨[(0, .own 2097152 0 4 (p147.map eDLease)), (1, iV p63), (2, iV p64), (3, iV p148), (4, .clo f4 k4), (10, .bool p66), (11, .bool p67), (12, iV (IntKind.i64.wrap (p64 - p63)))], [], []⟩ (fg ⟨rfl, rfl, rfl, rfl, rfl, rfl, rfl, rfl, trivial⟩ trivial) ?_
     refine seq_ ?_
     refine reg_ ?_
     refine st (mv_ rfl trivial ?_)
     refine st (mv_ rfl trivial ?_)
     refine st (mv_ rfl trivial ?_)
     refine st (mv_ rfl trivial ?_)
     obtain ⟨r149, e150, h1⟩ := bnd h1
     refine st (call0_ (r := .tup [iV r149.1, iV r149.2]) false (H151 p147 p63 p64 f4 k4 is4 hs4 hf4 r149 e150) ⟨trivial, trivial, trivial, trivial, trivial⟩ rfl (mapc1 rfl (mapc1 rfl (mapc1 rfl (mapc1 (clo_sh hs4) rfl)))) (fun _ => rfl) ?_)
     refine st (mv_ rfl trivial ?_)
     refine st (c_ (cp_ ⟨trivial, trivial⟩ rfl trivial) ?_)
     refine st (c_ (cp_ ⟨trivial, trivial⟩ rfl trivial) ?_)
     refine st (mv_ rfl trivial ?_)
     refine st (mv_ rfl trivial ?_)
     refine oe_ ?_
     refine wk_ ⟨[(0, .own 2097152 0 4 (p147.map eDLease)), (1, iV p63), (2, iV p64), (3, iV p148), (4, .clo f4 k4), (10, .bool p66), (11, .bool p67), (12, iV (IntKind.i64.wrap (p64 - p63))), (13, iV r149.1), (14, iV r149.2)], [], []⟩ (fg ⟨rfl, rfl, rfl, rfl, rfl, rfl, rfl, rfl, rfl, rfl, trivial⟩ trivial) ?_
     refine seq_ ?_
     refine seq_ ?_
     refine reg_ ?_
     refine st (mv_ rfl trivial ?_)
     refine st (c_ (cp_ t3 rfl trivial) ?_)
     refine oe_ ?_
     refine wk_ ⟨[(0, .own 2097152 0 4 (p147.map eDLease)), (1, iV p63), (2, iV p64), (3, iV p148), (4, .clo f4 k4), (10, .bool p66), (11, .bool p67), (12, iV (IntKind.i64.wrap (p64 - p63))), (13, iV r149.1), (14, iV r149.2), (56, .bool (r149.2 == 2))], [], []⟩ (fg ⟨rfl, rfl, rfl, rfl, rfl, rfl, rfl, rfl, rfl, rfl, rfl, trivial⟩ trivial) ?_
     refine iteJ (cb := (r149.2 == 2)) (fun S => ∃ p157 : List DLease, ∃ p158 : Int, ∃ p159 : Int, S = ⟨[(0, .own 2097152 0 4 (p157.map eDLease)), (1, iV p63), (2, iV p64), (3, iV p148), (4, .clo f4 k4), (10, .bool p66), (11, .bool p67), (12, iV (IntKind.i64.wrap (p64 - p63))), (13, iV p158), (14, iV p159)], [], []⟩ ∧ g137_j1 is4 rc137 p63 p64 p66 p67 p148 p157 p158 p159 = some o1) rfl ?_ (fun c203 J202 => ?_) (fun c203 J202 => ?_)
     ·rintro _ ⟨p157, p158, p159, rfl, h1⟩
      refine wk_ ⟨[(0, .own 2097152 0 4 (p157.map eDLease)), (1, iV p63), (2, iV p64), (3, iV p148), (4, .clo f4 k4), (10, .bool p66), (11, .bool p67), (12, iV (IntKind.i64.wrap (p64 - p63))), (13, iV p158), (14, iV p159)], [], []⟩ (fg ⟨rfl, rfl, rfl, rfl, rfl, rfl, rfl, rfl, rfl, rfl, trivial⟩ trivial) ?_
      refine seq_ ?_
      refine seq_ ?_
      refine reg_ ?_
      refine st (mv_ rfl trivial ?_)
      refine st (mv_ rfl trivial ?_)
      refine st (pg_ (u := .bool p67) rfl (fun hg => (cmv (v := .bool p67) rfl trivial)) ?_)
      refine st (pick_ rfl rfl rfl (fun h => eqt h) trivial rfl ?_)
      refine st (mv_ rfl trivial ?_)
      refine st (pg_ (u := iV p159) rfl (fun hg => (cmv (v := iV p159) rfl trivial)) ?_)
      refine st (pg_ (u := .bool (p159 == 1)) rfl (fun hg => (cp_ ⟨(fun _ => hg), trivial, trivial⟩ rfl trivial)) ?_)
      refine st (pick_ rfl rfl rfl (fun h => eqt h) trivial rfl ?_)
      refine oe_ ?_
      refine wk_ ⟨[(0, .own 2097152 0 4 (p157.map eDLease)), (1, iV p63), (2, iV p64), (3, iV p148), (4, .clo f4 k4), (10, .bool p66), (11, .bool p67), (12, iV (IntKind.i64.wrap (p64 - p63))), (13, iV p158), (75, .bool (bif (bif p66 then p67 else false) then (p159 == 1) else false))], [], []⟩ (fg ⟨rfl, rfl, rfl, rfl, rfl, rfl, rfl, rfl, rfl, rfl, trivial⟩ trivial) ?_
      refine iteJ (cb := (bif (bif p66 then p67 else false) then (p159 == 1) else false)) (fun S => ∃ p165 : List DLease, S = ⟨[(0, .own 2097152 0 4 (p165.map eDLease)), (1, iV p63), (2, iV p64), (3, iV p148), (4, .clo f4 k4), (10, .bool p66), (11, .bool p67), (12, iV (IntKind.i64.wrap (p64 - p63))), (13, iV p158)], [], []⟩ ∧ g137_j2 is4 rc137 p63 p64 p66 p67 p148 p158 p165 = some o1) rfl ?_ (fun c197 J196 => ?_) (fun c197 J196 => ?_)
      ·rintro _ ⟨p165, rfl, h1⟩
       refine wk_ ⟨[(0, .own 2097152 0 4 (p165.map eDLease)), (1, iV p63), (2, iV p64), (3, iV p148), (4, .clo f4 k4), (10, .bool p66), (11, .bool p67), (12, iV (IntKind.i64.wrap (p64 - p63))), (13, iV p158)], [], []⟩ (fg ⟨rfl, rfl, rfl, rfl, rfl, rfl, rfl, rfl, rfl, trivial⟩ trivial) ?_
       refine seq_ ?_
       refine seq_ ?_
       obtain ⟨y166, e167, h1⟩ := bnd h1
       obtain ⟨y168, e169, h1⟩ := bnd h1
       obtain ⟨y170, e171, h1⟩ := bnd h1
       obtain ⟨y172, e173, h1⟩ := bnd h1
       obtain ⟨r174, e175, h1⟩ := bnd h1
       refine draw_ ?_
       refine dtake trivial (mv_ rfl trivial ?_)
       refine ⟨trivial, ?_⟩
       refine dtake trivial (c_ (cp_ t3 rfl trivial) ?_)
       refine ⟨trivial, ?_⟩
       refine dtake trivial (mv_ rfl trivial ?_)
       refine ⟨trivial, ?_⟩
       refine dtake trivial (pg_ (u := .clo f4 k4) rfl (fun hg => (cmv (v := .clo f4 k4) rfl trivial)) ?_)
       refine ⟨trivial, ?_⟩
       refine dtake trivial (pg_ (u := .own 2097152 0 4 (p165.map eDLease)) rfl (fun hg => (cmv (v := .own 2097152 0 4 (p165.map eDLease)) rfl trivial)) ?_)
       refine ⟨trivial, ?_⟩
       refine dtake trivial (pg_ (u := iV p63) rfl (fun hg => (cmv (v := iV p63) rfl trivial)) ?_)
       refine ⟨trivial, ?_⟩
       refine dtake trivial (pg_ (u := iV (IntKind.i64.wrap (p63 - 1))) rfl (fun hg => (cp_ ⟨(fun _ => hg), trivial, trivial⟩ rfl trivial)) ?_)
       refine ⟨trivial, ?_⟩
       refine dtake trivial (pg_ (u := .optr 2097152 4 (0 + ((IntKind.i64.wrap (p63 - 1)).toNat)) 0) rfl (fun hg => (cidxO (e := eDLease) (y := y166) rfl rfl (fun _ => hg) rfl rfl (fun _ => hg) (ip hg e167))) ?_)
       refine ⟨trivial, ?_⟩
       refine dtakeO (pg_ (u := .agg (eDLease y168)) rfl (fun hg => (cloadO (e := eDLease) (y := y168) (v := .agg (eDLease y168)) rfl rfl (fun _ => hg) rfl rfl (ip hg e169) rfl (nl rfl) rfl)) ?_)
       refine ⟨⟨(againg (v := .agg (eDLease y168)) rfl (fun hg => (cloadO (e := eDLease) (y := y168) (v := .agg (eDLease y168)) rfl rfl (fun _ => hg) rfl rfl (ip hg e169) rfl (nl rfl) rfl)) rfl), trivial⟩, ?_⟩
       refine dtake trivial (pg_ (u := .own 2097152 0 4 (p165.map eDLease)) rfl (fun hg => (cmv (v := .own 2097152 0 4 (p165.map eDLease)) rfl trivial)) ?_)
       refine ⟨⟨(againg (v := .agg (eDLease y168)) rfl (fun hg => (cloadO (e := eDLease) (y := y168) (v := .agg (eDLease y168)) rfl rfl (fun _ => hg) rfl rfl (ip hg e169) rfl (nl rfl) rfl)) rfl), trivial⟩, ?_⟩
       refine dtake trivial (pg_ (u := iV p158) rfl (fun hg => (cmv (v := iV p158) rfl trivial)) ?_)
       refine ⟨⟨(againg (v := .agg (eDLease y168)) rfl (fun hg => (cloadO (e := eDLease) (y := y168) (v := .agg (eDLease y168)) rfl rfl (fun _ => hg) rfl rfl (ip hg e169) rfl (nl rfl) rfl)) rfl), trivial⟩, ?_⟩
       refine dtake trivial (pg_ (u := .optr 2097152 4 (0 + p158.toNat) 0) rfl (fun hg => (cidxO (e := eDLease) (y := y170) rfl rfl (fun _ => hg) rfl rfl (fun _ => hg) (ip hg e171))) ?_)
       refine ⟨⟨(againg (v := .agg (eDLease y168)) rfl (fun hg => (cloadO (e := eDLease) (y := y168) (v := .agg (eDLease y168)) rfl rfl (fun _ => hg) rfl rfl (ip hg e169) rfl (nl rfl) rfl)) rfl), trivial⟩, ?_⟩
       refine dtakeO (pg_ (u := .agg (eDLease y172)) rfl (fun hg => (cloadO (e := eDLease) (y := y172) (v := .agg (eDLease y172)) rfl rfl (fun _ => hg) rfl rfl (ip hg e173) rfl (nl rfl) rfl)) ?_)
       refine ⟨⟨(againg (v := .agg (eDLease y172)) rfl (fun hg => (cloadO (e := eDLease) (y := y172) (v := .agg (eDLease y172)) rfl rfl (fun _ => hg) rfl rfl (ip hg e173) rfl (nl rfl) rfl)) rfl), (againg (v := .agg (eDLease y168)) rfl (fun hg => (cloadO (e := eDLease) (y := y168) (v := .agg (eDLease y168)) rfl rfl (fun _ => hg) rfl rfl (ip hg e169) rfl (nl rfl) rfl)) rfl), trivial⟩, ?_⟩
       refine dalt (callvg_ (r := iV r174) rfl rfl rfl (fun hg => hg) false (fun hg => hf4 _ _ r174 (ip hg e175)) ⟨(fun hg => hg), (fun hg => hg), trivial⟩ (fun _ => (and_ rfl (and_ rfl hs4.2.2.1))) (fun _ => (mapc1 rfl (mapc1 rfl (hs4.2.1 _ _ _ _ _)))) (fun _ => rfl) (fun h => nomatch h) ?_) dstop
       refine dkw ⟨[(0, .own 2097152 0 4 (p165.map eDLease)), (1, iV p63), (2, iV p64), (3, iV p148), (4, .clo f4 k4), (10, .bool p66), (11, .bool p67), (12, iV (IntKind.i64.wrap (p64 - p63))), (13, iV p158), (83, .bool (decide (p63 > 0))), (94, .may ((decide (p63 > 0)) == true) (iV r174))], [], []⟩ (fg ⟨rfl, rfl, rfl, rfl, rfl, rfl, rfl, rfl, rfl, rfl, rfl, trivial⟩ trivial) ⟨[], trivial, trivial, ?_⟩
       refine dtake trivial (pg_ (u := .bool (decide (r174 < 0))) rfl (fun hg => (cp_ ⟨(fun _ => hg), trivial, trivial⟩ rfl trivial)) ?_)
       refine ⟨trivial, ?_⟩
       refine dtake trivial (pg_ (u := .bool (!(decide (r174 < 0)))) rfl (fun hg => (cp_ ⟨(fun _ => hg), trivial⟩ rfl trivial)) ?_)
       refine ⟨trivial, ?_⟩
       refine dtake trivial (pick_ rfl rfl rfl (fun h => eqt h) trivial rfl ?_)
       refine ⟨trivial, ?_⟩
       refine dfin ?_
       refine wk_ ⟨[(0, .own 2097152 0 4 (p165.map eDLease)), (1, iV p63), (2, iV p64), (3, iV p148), (4, .clo f4 k4), (10, .bool p66), (11, .bool p67), (12, iV (IntKind.i64.wrap (p64 - p63))), (13, iV p158), (97, .bool (bif (decide (p63 > 0)) then (!(decide (r174 < 0))) else false))], [], []⟩ (fg ⟨rfl, rfl, rfl, rfl, rfl, rfl, rfl, rfl, rfl, rfl, trivial⟩ trivial) ?_
       refine ite_ (cb := (bif (decide (p63 > 0)) then (!(decide (r174 < 0))) else false)) rfl (fun c176 => ?_) (fun c176 => ?_)
       ·replace h1 := ip c176 h1
        refine seq_ ?_
        refine reg_ ?_
        refine st (mv_ rfl trivial ?_)
        refine st (mv_ rfl trivial ?_)
        refine st (mv_ rfl trivial ?_)
        refine st (mv_ rfl trivial ?_)
        refine st (mv_ rfl trivial ?_)
        obtain ⟨r177, e178, h1⟩ := bnd h1
        obtain ⟨c179, h1⟩ := grd h1
        refine st (call1_ [] [2097152] [] false (H154 p165 p63 p64 p158 f4 k4 is4 hs4 hf4 r177 e178) ⟨trivial, trivial, trivial, trivial, trivial, trivial⟩ (by kernel_rfl) (congrArg (fun z => Give.mk z []) (mapc1 rfl (mapc1 rfl (mapc1 rfl (mapc1 rfl (mapc1 (clo_sh hs4) rfl)))))) (by kernel_rfl) (by kernel_rfl) (fun _ => and_ rfl (and_ (fl2 (fun _ => rfl)) rfl)) ?_)
        refine sw ⟨[(0, .own 2097152 0 4 (r177.2.map eDLease)), (2, iV p64), (3, iV p148), (4, .clo f4 k4), (10, .bool p66), (11, .bool p67), (103, iV r177.1)], [], []⟩ (fg ⟨(congrArg (fun z => some ((z : V))) (row_eq c179)), rfl, rfl, rfl, rfl, rfl, rfl, trivial⟩ trivial) (mv_ rfl trivial ?_)
        refine oe_ ?_
        refine wk_ ⟨[(0, .own 2097152 0 4 (r177.2.map eDLease)), (2, iV p64), (3, iV p148), (4, .clo f4 k4), (10, .bool p66), (11, .bool p67), (15, iV r177.1)], [], []⟩ (fg ⟨rfl, rfl, rfl, rfl, rfl, rfl, rfl, trivial⟩ trivial) ?_
        refine seq_ ?_
        refine reg_ ?_
        refine st (mv_ rfl trivial ?_)
        refine st (mv_ rfl trivial ?_)
        refine oe_ ?_
        refine wk_ ⟨[(0, .own 2097152 0 4 (r177.2.map eDLease)), (1, iV r177.1), (2, iV p64), (3, iV p148), (4, .clo f4 k4), (10, .bool p66), (11, .bool p67)], [], []⟩ (fg ⟨rfl, rfl, rfl, rfl, rfl, rfl, rfl, trivial⟩ trivial) ?_
        refine ex_ rfl ?_
        obtain rfl := Option.some.inj h1
        exact hK1 _ rfl _ ⟨[(0, .own 2097152 0 4 (r177.2.map eDLease)), (1, iV r177.1), (2, iV p64), (3, iV p148), (4, .clo f4 k4), (10, .bool p66), (11, .bool p67)], [], []⟩ (fg ⟨rfl, rfl, rfl, rfl, rfl, rfl, rfl, trivial⟩ trivial) rfl
       ·replace h1 := inb c176 h1
        refine sk_ ?_
        refine wk_ ⟨[(0, .own 2097152 0 4 (p165.map eDLease)), (1, iV p63), (2, iV p64), (3, iV p148), (4, .clo f4 k4), (12, iV (IntKind.i64.wrap (p64 - p63))), (13, iV p158)], [], []⟩ (fg ⟨rfl, rfl, rfl, rfl, rfl, rfl, rfl, trivial⟩ trivial) ?_
        refine seq_ ?_
        refine reg_ ?_
        refine st (mv_ rfl trivial ?_)
        refine st (mv_ rfl trivial ?_)
        refine st (mv_ rfl trivial ?_)
        refine st (mv_ rfl trivial ?_)
        refine st (mv_ rfl trivial ?_)
        obtain ⟨r180, e181, h1⟩ := bnd h1
        obtain ⟨c182, h1⟩ := grd h1
        refine st (call1_ [] [2097152] [] false (H155 p165 p63 p64 p158 f4 k4 is4 hs4 hf4 r180 e181) ⟨trivial, trivial, trivial, trivial, trivial, trivial⟩ (by kernel_rfl) (congrArg (fun z => Give.mk z []) (mapc1 rfl (mapc1 rfl (mapc1 rfl (mapc1 rfl (mapc1 (clo_sh hs4) rfl)))))) (by kernel_rfl) (by kernel_rfl) (fun _ => and_ rfl (and_ (fl2 (fun _ => rfl)) rfl)) ?_)
        refine sw ⟨[(0, .own 2097152 0 4 (r180.2.2.map eDLease)), (1, iV p63), (2, iV p64), (3, iV p148), (4, .clo f4 k4), (12, iV (IntKind.i64.wrap (p64 - p63))), (111, .tup [iV r180.1, .bool r180.2.1])], [], []⟩ (fg ⟨(congrArg (fun z => some ((z : V))) (row_eq c182)), rfl, rfl, rfl, rfl, rfl, rfl, trivial⟩ trivial) (mv_ rfl trivial ?_)
        refine st (c_ (cp_ ⟨trivial, trivial⟩ rfl trivial) ?_)
        refine st (c_ (cp_ ⟨trivial, trivial⟩ rfl trivial) ?_)
        refine st (mv_ rfl trivial ?_)
        refine st (mv_ rfl trivial ?_)
        refine oe_ ?_
        refine wk_ ⟨[(0, .own 2097152 0 4 (r180.2.2.map eDLease)), (1, iV p63), (2, iV p64), (3, iV p148), (4, .clo f4 k4), (12, iV (IntKind.i64.wrap (p64 - p63))), (16, iV r180.1), (17, .bool r180.2.1)], [], []⟩ (fg ⟨rfl, rfl, rfl, rfl, rfl, rfl, rfl, rfl, trivial⟩ trivial) ?_
        refine seq_ ?_
        refine reg_ ?_
        refine st (mv_ rfl trivial ?_)
        refine st (mv_ rfl trivial ?_)
        refine oe_ ?_
        refine wk_ ⟨[(0, .own 2097152 0 4 (r180.2.2.map eDLease)), (1, iV p63), (2, iV p64), (3, iV p148), (4, .clo f4 k4), (11, .bool r180.2.1), (12, iV (IntKind.i64.wrap (p64 - p63))), (16, iV r180.1)], [], []⟩ (fg ⟨rfl, rfl, rfl, rfl, rfl, rfl, rfl, rfl, trivial⟩ trivial) ?_
        refine seq_ ?_
        refine reg_ ?_
        refine st (mv_ rfl trivial ?_)
        refine st (mv_ rfl trivial ?_)
        refine st (c_ (cp_ t3 rfl trivial) ?_)
        refine st (mv_ rfl trivial ?_)
        refine st (mv_ rfl trivial ?_)
        refine st (c_ (cp_ t3 rfl trivial) ?_)
        refine st (mv_ rfl trivial ?_)
        refine st (mv_ rfl trivial ?_)
        refine oe_ ?_
        refine wk_ ⟨[(0, .own 2097152 0 4 (r180.2.2.map eDLease)), (1, iV p63), (2, iV p64), (3, iV p148), (4, .clo f4 k4), (11, .bool r180.2.1), (12, iV (IntKind.i64.wrap (p64 - p63))), (16, iV r180.1), (18, iV (IntKind.i64.wrap (r180.1 - p63))), (19, iV (IntKind.i64.wrap (p64 - r180.1)))], [], []⟩ (fg ⟨rfl, rfl, rfl, rfl, rfl, rfl, rfl, rfl, rfl, rfl, trivial⟩ trivial) ?_
        refine seq_ ?_
        refine reg_ ?_
        refine st (mv_ rfl trivial ?_)
        refine st (c_ (cp_ ⟨trivial, trivial, trivial⟩ rfl (by decide)) ?_)
        refine st (mv_ rfl trivial ?_)
        refine oe_ ?_
        refine wk_ ⟨[(0, .own 2097152 0 4 (r180.2.2.map eDLease)), (1, iV p63), (2, iV p64), (3, iV p148), (4, .clo f4 k4), (11, .bool r180.2.1), (16, iV r180.1), (18, iV (IntKind.i64.wrap (r180.1 - p63))), (19, iV (IntKind.i64.wrap (p64 - r180.1))), (20, iV (IntKind.i64.wrap (((IntKind.i64.wrap (p64 - p63))).tdiv 8)))], [], []⟩ (fg ⟨rfl, rfl, rfl, rfl, rfl, rfl, rfl, rfl, rfl, rfl, trivial⟩ trivial) ?_
        refine seq_ ?_
        refine reg_ ?_
        refine st (mv_ rfl trivial ?_)
        refine st (mv_ rfl trivial ?_)
        refine st (c_ (cp_ t3 rfl trivial) ?_)
        refine oe_ ?_
        obtain ⟨v183, e184, h1⟩ := bl h1
        refine wk_ ⟨[(0, .own 2097152 0 4 (r180.2.2.map eDLease)), (1, iV p63), (2, iV p64), (3, iV p148), (4, .clo f4 k4), (11, .bool r180.2.1), (16, iV r180.1), (18, iV (IntKind.i64.wrap (r180.1 - p63))), (19, iV (IntKind.i64.wrap (p64 - r180.1))), (20, iV (IntKind.i64.wrap (((IntKind.i64.wrap (p64 - p63))).tdiv 8))), (125, .bool v183)], [], []⟩ (fg ⟨(by subst e184; rfl), (by subst e184; rfl), (by subst e184; rfl), (by subst e184; rfl), (by subst e184; rfl), (by subst e184; rfl), (by subst e184; rfl), (by subst e184; rfl), (by subst e184; rfl), (by subst e184; rfl), (by subst e184; rfl), trivial⟩ trivial) ?_
        refine ite_ (cb := v183) rfl (fun c185 => ?_) (fun c185 => ?_)
        ·replace h1 := ip c185 h1
         refine seq_ ?_
         refine reg_ ?_
         refine st (mv_ rfl trivial ?_)
         refine st (mv_ rfl trivial ?_)
         refine st (c_ (cp_ t3 rfl trivial) ?_)
         refine st (mv_ rfl trivial ?_)
         refine oe_ ?_
         obtain ⟨v186, e187, h1⟩ := bl h1
         refine wk_ ⟨[(0, .own 2097152 0 4 (r180.2.2.map eDLease)), (1, iV p63), (2, iV p64), (3, iV p148), (4, .clo f4 k4), (10, .bool v186), (11, .bool r180.2.1), (16, iV r180.1)], [], []⟩ (fg ⟨(by subst e187; rfl), (by subst e187; rfl), (by subst e187; rfl), (by subst e187; rfl), (by subst e187; rfl), (by subst e187; rfl), (by subst e187; rfl), (by subst e187; rfl), trivial⟩ trivial) ?_
         refine seq_ ?_
         refine reg_ ?_
         refine st (mv_ rfl trivial ?_)
         refine st (mv_ rfl trivial ?_)
         refine st (mv_ rfl trivial ?_)
         refine st (mv_ rfl trivial ?_)
         refine st (mv_ rfl trivial ?_)
         obtain ⟨r188, e189, h1⟩ := bnd h1
         obtain ⟨c190, h1⟩ := grd h1
         refine st (call1_ [] [2097152] [] false (R137 r180.2.2 p63 r180.1 p148 f4 k4 is4 hs4 hf4 r188 e189) ⟨trivial, trivial, trivial, trivial, trivial, trivial⟩ (by kernel_rfl) (congrArg (fun z => Give.mk z []) (mapc1 rfl (mapc1 rfl (mapc1 rfl (mapc1 rfl (mapc1 (clo_sh hs4) rfl)))))) (by kernel_rfl) (by kernel_rfl) (fun _ => and_ rfl (and_ (fl2 (fun _ => rfl)) rfl)) ?_)
         refine oe_ ?_
         refine wk_ ⟨[(0, .own 2097152 0 4 (r188.map eDLease)), (2, iV p64), (3, iV p148), (4, .clo f4 k4), (10, .bool v186), (11, .bool r180.2.1), (16, iV r180.1)], [], []⟩ (fg ⟨(congrArg (fun z => some ((z : V))) (row_eq c190)), rfl, rfl, rfl, rfl, rfl, rfl, trivial⟩ trivial) ?_
         refine reg_ ?_
         refine st (mv_ rfl trivial ?_)
         refine st (c_ (cp_ t3 rfl trivial) ?_)
         refine st (mv_ rfl trivial ?_)
         refine oe_ ?_
         refine bn_ ?_
         obtain rfl := Option.some.inj h1
         exact hK1 _ rfl _ ⟨[(0, .own 2097152 0 4 (r188.map eDLease)), (1, iV (IntKind.i64.wrap (r180.1 + 1))), (2, iV p64), (3, iV p148), (4, .clo f4 k4), (10, .bool v186), (11, .bool r180.2.1)], [], []⟩ (fg ⟨rfl, rfl, rfl, rfl, rfl, rfl, rfl, trivial⟩ trivial) rfl
        ·replace h1 := inb c185 h1
         refine seq_ ?_
         refine reg_ ?_
         refine st (mv_ rfl trivial ?_)
         refine st (mv_ rfl trivial ?_)
         refine st (c_ (cp_ t3 rfl trivial) ?_)
         refine st (mv_ rfl trivial ?_)
         refine oe_ ?_
         obtain ⟨v191, e192, h1⟩ := bl h1
         refine wk_ ⟨[(0, .own 2097152 0 4 (r180.2.2.map eDLease)), (1, iV p63), (2, iV p64), (3, iV p148), (4, .clo f4 k4), (10, .bool v191), (11, .bool r180.2.1), (16, iV r180.1)], [], []⟩ (fg ⟨(by subst e192; rfl), (by subst e192; rfl), (by subst e192; rfl), (by subst e192; rfl), (by subst e192; rfl), (by subst e192; rfl), (by subst e192; rfl), (by subst e192; rfl), trivial⟩ trivial) ?_
         refine seq_ ?_
         refine reg_ ?_
         refine st (mv_ rfl trivial ?_)
         refine st (mv_ rfl trivial ?_)
         refine st (c_ (cp_ t3 rfl trivial) ?_)
         refine st (mv_ rfl trivial ?_)
         refine st (mv_ rfl trivial ?_)
         refine st (mv_ rfl trivial ?_)
         obtain ⟨r193, e194, h1⟩ := bnd h1
         obtain ⟨c195, h1⟩ := grd h1
         refine st (call1_ [] [2097152] [] false (R137 r180.2.2 (IntKind.i64.wrap (r180.1 + 1)) p64 p148 f4 k4 is4 hs4 hf4 r193 e194) ⟨trivial, trivial, trivial, trivial, trivial, trivial⟩ (by kernel_rfl) (congrArg (fun z => Give.mk z []) (mapc1 rfl (mapc1 rfl (mapc1 rfl (mapc1 rfl (mapc1 (clo_sh hs4) rfl)))))) (by kernel_rfl) (by kernel_rfl) (fun _ => and_ rfl (and_ (fl2 (fun _ => rfl)) rfl)) ?_)
         refine oe_ ?_
         refine wk_ ⟨[(0, .own 2097152 0 4 (r193.map eDLease)), (1, iV p63), (3, iV p148), (4, .clo f4 k4), (10, .bool v191), (11, .bool r180.2.1), (16, iV r180.1)], [], []⟩ (fg ⟨(congrArg (fun z => some ((z : V))) (row_eq c195)), rfl, rfl, rfl, rfl, rfl, rfl, trivial⟩ trivial) ?_
         refine reg_ ?_
         refine st (mv_ rfl trivial ?_)
         refine st (mv_ rfl trivial ?_)
         refine oe_ ?_
         refine bn_ ?_
         obtain rfl := Option.some.inj h1
         exact hK1 _ rfl _ ⟨[(0, .own 2097152 0 4 (r193.map eDLease)), (1, iV p63), (2, iV r180.1), (3, iV p148), (4, .clo f4 k4), (10, .bool v191), (11, .bool r180.2.1)], [], []⟩ (fg ⟨rfl, rfl, rfl, rfl, rfl, rfl, rfl, trivial⟩ trivial) rfl
      ·replace h1 := ip c197 h1
       refine seq_ ?_
       refine reg_ ?_
       refine st (mv_ rfl trivial ?_)
       refine st (mv_ rfl trivial ?_)
       refine st (mv_ rfl trivial ?_)
       refine st (mv_ rfl trivial ?_)
       obtain ⟨r198, e199, h1⟩ := bnd h1
       obtain ⟨c200, h1⟩ := grd h1
       refine st (call1_ [] [2097152] [] false (H153 p157 p63 p64 f4 k4 is4 hs4 hf4 r198 e199) ⟨trivial, trivial, trivial, trivial, trivial⟩ (by kernel_rfl) (congrArg (fun z => Give.mk z []) (mapc1 rfl (mapc1 rfl (mapc1 rfl (mapc1 (clo_sh hs4) rfl))))) (by kernel_rfl) (by kernel_rfl) (fun _ => and_ rfl (and_ (fl2 (fun _ => rfl)) rfl)) ?_)
       refine oe_ ?_
       refine wk_ ⟨[(0, .own 2097152 0 4 (r198.2.map eDLease)), (1, iV p63), (2, iV p64), (3, iV p148), (4, .clo f4 k4), (10, .bool p66), (11, .bool p67), (12, iV (IntKind.i64.wrap (p64 - p63))), (13, iV p158), (80, .bool r198.1)], [], []⟩ (fg ⟨(congrArg (fun z => some ((z : V))) (row_eq c200)), rfl, rfl, rfl, rfl, rfl, rfl, rfl, rfl, rfl, trivial⟩ trivial) ?_
       refine ite_ (cb := r198.1) rfl (fun c201 => ?_) (fun c201 => ?_)
       ·replace h1 := ip c201 h1
        obtain rfl := Option.some.inj h1
        obtain rfl := hx1 _ rfl
        obtain rfl := Option.some.inj h0
        exact rt_ (hR1 _ (ret_ rfl rfl rfl rfl rfl ⟨⟨rfl, mlen (fun _ => rfl)⟩, trivial⟩))
       ·replace h1 := inb c201 h1
        refine sk_ ?_
        exact J196 _ ⟨[(0, .own 2097152 0 4 (r198.2.map eDLease)), (1, iV p63), (2, iV p64), (3, iV p148), (4, .clo f4 k4), (10, .bool p66), (11, .bool p67), (12, iV (IntKind.i64.wrap (p64 - p63))), (13, iV p158)], [], []⟩ (fg ⟨rfl, rfl, rfl, rfl, rfl, rfl, rfl, rfl, rfl, trivial⟩ trivial) ⟨_, rfl, h1⟩
      ·replace h1 := inb c197 h1
       refine sk_ ?_
       exact J196 _ ⟨[(0, .own 2097152 0 4 (p157.map eDLease)), (1, iV p63), (2, iV p64), (3, iV p148), (4, .clo f4 k4), (10, .bool p66), (11, .bool p67), (12, iV (IntKind.i64.wrap (p64 - p63))), (13, iV p158)], [], []⟩ (fg ⟨rfl, rfl, rfl, rfl, rfl, rfl, rfl, rfl, rfl, trivial⟩ trivial) ⟨_, rfl, h1⟩
     ·replace h1 := ip c203 h1
      refine seq_ ?_
      refine reg_ ?_
      refine st (mv_ rfl trivial ?_)
      refine st (mv_ rfl trivial ?_)
      refine st (mv_ rfl trivial ?_)
      refine st (mv_ rfl trivial ?_)
      obtain ⟨r204, e205, h1⟩ := bnd h1
      obtain ⟨c206, h1⟩ := grd h1
      refine st (call1_ [] [2097152] [] false (H152 p147 p63 p64 f4 k4 is4 hs4 hf4 r204 e205) ⟨trivial, trivial, trivial, trivial, trivial⟩ (by kernel_rfl) (congrArg (fun z => Give.mk z []) (mapc1 rfl (mapc1 rfl (mapc1 rfl (mapc1 (clo_sh hs4) rfl))))) (by kernel_rfl) (by kernel_rfl) (fun _ => and_ rfl (and_ (fl2 (fun _ => rfl)) rfl)) ?_)
      refine oe_ ?_
      refine wk_ ⟨[(0, .own 2097152 0 4 (r204.map eDLease)), (1, iV p63), (2, iV p64), (3, iV p148), (4, .clo f4 k4), (10, .bool p66), (11, .bool p67), (12, iV (IntKind.i64.wrap (p64 - p63))), (13, iV r149.1)], [], []⟩ (fg ⟨(congrArg (fun z => some ((z : V))) (row_eq c206)), rfl, rfl, rfl, rfl, rfl, rfl, rfl, rfl, trivial⟩ trivial) ?_
      refine seq_ ?_
      refine reg_ ?_
      refine st (mv_ rfl trivial ?_)
      refine st (c_ (cp_ t3 rfl trivial) ?_)
      refine st (mv_ rfl trivial ?_)
      refine st (mv_ rfl trivial ?_)
      refine st (c_ (cp_ t3 rfl trivial) ?_)
      refine st (c_ (cp_ t3 rfl trivial) ?_)
      refine st (mv_ rfl trivial ?_)
      refine oe_ ?_
      obtain ⟨v207, e208, h1⟩ := bl h1
      refine wk_ ⟨[(0, .own 2097152 0 4 (r204.map eDLease)), (1, iV p63), (2, iV p64), (3, iV p148), (4, .clo f4 k4), (10, .bool p66), (11, .bool p67), (12, iV (IntKind.i64.wrap (p64 - p63))), (13, iV v207)], [], []⟩ (fg ⟨(by subst e208; rfl), (by subst e208; rfl), (by subst e208; rfl), (by subst e208; rfl), (by subst e208; rfl), (by subst e208; rfl), (by subst e208; rfl), (by subst e208; rfl), (by subst e208; rfl), trivial⟩ trivial) ?_
      refine reg_ ?_
      refine st (mvc_ trivial ?_)
      refine oe_ ?_
      exact J202 _ ⟨[(0, .own 2097152 0 4 (r204.map eDLease)), (1, iV p63), (2, iV p64), (3, iV p148), (4, .clo f4 k4), (10, .bool p66), (11, .bool p67), (12, iV (IntKind.i64.wrap (p64 - p63))), (13, iV v207), (14, iV 1)], [], []⟩ (fg ⟨rfl, rfl, rfl, rfl, rfl, rfl, rfl, rfl, rfl, rfl, trivial⟩ trivial) ⟨_, _, _, rfl, h1⟩
     ·replace h1 := inb c203 h1
      refine sk_ ?_
      exact J202 _ ⟨[(0, .own 2097152 0 4 (p147.map eDLease)), (1, iV p63), (2, iV p64), (3, iV p148), (4, .clo f4 k4), (10, .bool p66), (11, .bool p67), (12, iV (IntKind.i64.wrap (p64 - p63))), (13, iV r149.1), (14, iV r149.2)], [], []⟩ (fg ⟨rfl, rfl, rfl, rfl, rfl, rfl, rfl, rfl, rfl, rfl, trivial⟩ trivial) ⟨_, _, _, rfl, h1⟩
    ·replace h1 := ip c210 h1
     refine seq_ ?_
     refine reg_ ?_
     refine st (mv_ rfl trivial ?_)
     refine st (mv_ rfl trivial ?_)
     refine st (mv_ rfl trivial ?_)
     refine st (mv_ rfl trivial ?_)
     obtain ⟨r211, e212, h1⟩ := bnd h1
     obtain ⟨c213, h1⟩ := grd h1
     refine st (call1_ [] [2097152] [] false (H150 p62 p63 p64 f4 k4 is4 hs4 hf4 r211 e212) ⟨trivial, trivial, trivial, trivial, trivial⟩ (by kernel_rfl) (congrArg (fun z => Give.mk z []) (mapc1 rfl (mapc1 rfl (mapc1 rfl (mapc1 (clo_sh hs4) rfl))))) (by kernel_rfl) (by kernel_rfl) (fun _ => and_ rfl (and_ (fl2 (fun _ => rfl)) rfl)) ?_)
     refine oe_ ?_
     refine wk_ ⟨[(0, .own 2097152 0 4 (r211.map eDLease)), (1, iV p63), (2, iV p64), (3, iV p65), (4, .clo f4 k4), (10, .bool p66), (11, .bool p67), (12, iV (IntKind.i64.wrap (p64 - p63)))], [], []⟩ (fg ⟨(congrArg (fun z => some ((z : V))) (row_eq c213)), rfl, rfl, rfl, rfl, rfl, rfl, rfl, trivial⟩ trivial) ?_
     refine reg_ ?_
     refine st (mv_ rfl trivial ?_)
     refine st (c_ (cp_ t3 rfl trivial) ?_)
     refine st (mv_ rfl trivial ?_)
     refine oe_ ?_
     exact J209 _ ⟨[(0, .own 2097152 0 4 (r211.map eDLease)), (1, iV p63), (2, iV p64), (3, iV (IntKind.i64.wrap (p65 - 1))), (4, .clo f4 k4), (10, .bool p66), (11, .bool p67), (12, iV (IntKind.i64.wrap (p64 - p63)))], [], []⟩ (fg ⟨rfl, rfl, rfl, rfl, rfl, rfl, rfl, rfl, trivial⟩ trivial) ⟨_, _, rfl, h1⟩
    ·replace h1 := inb c210 h1
     refine sk_ ?_
     exact J209 _ ⟨[(0, .own 2097152 0 4 (p62.map eDLease)), (1, iV p63), (2, iV p64), (3, iV p65), (4, .clo f4 k4), (10, .bool p66), (11, .bool p67), (12, iV (IntKind.i64.wrap (p64 - p63)))], [], []⟩ (fg ⟨rfl, rfl, rfl, rfl, rfl, rfl, rfl, rfl, trivial⟩ trivial) ⟨_, _, rfl, h1⟩

/- slices.SortFunc[[]loop.example/g00149/impl.Lease,loop.example/g00149/impl.Lease] -/
def c116_r0 : List Ins := [⟨some 5, .p (.mv (.t 0)), none⟩,
⟨some 6, .p (.len (.t 5)), none⟩,
⟨some 4, .p (.mv (.t 6)), none⟩]
def c116_r1 : List Ins := [⟨some 7, .p (.mv (.t 0)), none⟩,
⟨some 8, .p (.mv (.t 4)), none⟩,
⟨some 9, .p (.mv (.t 4)), none⟩,
⟨some 10, .p (.conv .u64 (.t 9)), none⟩,
⟨some 11, .call 138 [(.t 10)], none⟩,
⟨some 12, .p (.mv (.t 1)), none⟩,
⟨some 13, .call 137 [(.t 7), (.c (iV 0)), (.t 8), (.t 11), (.t 12)], none⟩]
def c116 : XFn := { np := 2, nt := 14, res := [], body := (.seq (.reg c116_r0) (.reg c116_r1)) }
def K116 (C : CRel) : Prop := ∀ (a0 : List DLease) (f1 : Nat) (k1 : List V) (is1 : DLease → DLease → Option Int) (hs1 : Shut k1) (hf1 : ∀ (x0 : DLease) (x1 : DLease) r, is1 x0 x1 = some r → C f1 ⟨.agg (eDLease x0) :: .agg (eDLease x1) :: k1, []⟩ ⟨iV r, [], []⟩) (r : (List DLease)), g116 a0 is1 = some r → C 116 ⟨[.own 2097152 0 4 (a0.map eDLease), .clo f1 k1], []⟩ ⟨.tup [], [], [(0, 4, r.map eDLease)]⟩
theorem F116 {C : CRel} (H137 : K137 C) (H138 : K138 C) (a0 : List DLease) (f1 : Nat) (k1 : List V) (is1 : DLease → DLease → Option Int) (hs1 : Shut k1) (hf1 : ∀ (x0 : DLease) (x1 : DLease) r, is1 x0 x1 = some r → C f1 ⟨.agg (eDLease x0) :: .agg (eDLease x1) :: k1, []⟩ ⟨iV r, [], []⟩) (r : (List DLease)) (h0 : g116 a0 is1 = some r) : FnOK C c116 ⟨[.own 2097152 0 4 (a0.map eDLease), .clo f1 k1], []⟩ ⟨.tup [], [], [(0, 4, r.map eDLease)]⟩ := by
 refine fn_ (nl rfl) ?_
 refine seq_ ?_
 refine reg_ ?_
 refine st (mv_ rfl trivial ?_)
 refine st (c_ (clenO (e := eDLease) (l0 := a0) rfl rfl trivial) ?_)
 refine st (mv_ rfl trivial ?_)
 refine oe_ ?_
 refine wk_ ⟨[(0, .own 2097152 0 4 (a0.map eDLease)), (1, .clo f1 k1), (4, iV (a0.length : Int))], [], []⟩ (fg ⟨rfl, rfl, rfl, trivial⟩ trivial) ?_
 refine reg_ ?_
 refine st (mv_ rfl trivial ?_)
 refine st (mv_ rfl trivial ?_)
 refine st (mv_ rfl trivial ?_)
 refine st (c_ (cp_ ⟨trivial, trivial⟩ rfl trivial) ?_)
 obtain ⟨r1, e2, h0⟩ := bnd h0
 refine st (call0_ (r := iV r1) false (H138 (IntKind.u64.wrap (a0.length : Int)) r1 e2) ⟨trivial, trivial⟩ rfl rfl (fun _ => rfl) ?_)
 refine st (mv_ rfl trivial ?_)
 obtain ⟨r3, e4, h0⟩ := bnd h0
 obtain ⟨c5, h0⟩ := grd h0
 refine sw ⟨[(0, .own 2097152 0 4 (a0.map eDLease)), (7, .own 2097152 0 4 (a0.map eDLease)), (8, iV (a0.length : Int)), (11, iV r1), (12, .clo f1 k1)], [], []⟩ (fg ⟨rfl, rfl, rfl, rfl, rfl, trivial⟩ trivial) (call1_ [] [2097152] [] false ((H137 fuel) a0 0 (a0.length : Int) r1 f1 k1 is1 hs1 hf1 r3 e4) ⟨trivial, trivial, trivial, trivial, trivial, trivial⟩ (by kernel_rfl) (congrArg (fun z => Give.mk z []) (mapc1 rfl (mapc1 rfl (mapc1 rfl (mapc1 rfl (mapc1 (clo_sh hs1) rfl)))))) (by kernel_rfl) (by kernel_rfl) (fun _ => and_ rfl (and_ (fl2 (fun _ => rfl)) rfl)) ?_)
 refine oe_ ?_
 obtain rfl := Option.some.inj h0
 exact retn_ (retf_ (S1 := ⟨[(0, .own 2097152 0 4 (r3.map eDLease)), (7, .own 2097152 0 4 (r3.map eDLease))], [], []⟩) (fg ⟨(congrArg (fun z => some ((z : V))) (row_eq c5)), (congrArg (fun z => some ((z : V))) (row_eq c5)), trivial⟩ trivial) (ret_ rfl rfl rfl rfl rfl ⟨⟨rfl, mlen (fun _ => rfl)⟩, trivial⟩))

/- (loop.example/g00149/impl.Table).tick -/
def c82_r0 : List Ins := [⟨some 2, .box (.t 0), none⟩,
⟨some 4, .alloc [(iV 0), (iV 0), (.own 259 0 4 [])], none⟩,
⟨some 5, .nilS 1, none⟩]
def c82_r1 : List Ins := [⟨some 10, .p (.load (.t 2) 3 true), none⟩,
⟨some 11, .call 112 [(.t 10)], none⟩,
⟨some 6, .alloc [(iV 0), (iV 0), (.own 387 0 4 [])], none⟩,
⟨none, .store (.t 6) (.t 11) 3, none⟩]
def c82_r2 : List Ins := [⟨some 12, .p (.fieldA (.t 2) 0), none⟩,
⟨some 13, .p (.load (.t 12) 1 false), none⟩,
⟨some 14, .p (.mv (.t 1)), none⟩,
⟨some 15, .p (.mx (.t 13) (.t 14)), none⟩,
⟨some 16, .p (.fieldA (.t 6) 0), none⟩,
⟨none, .store (.t 16) (.t 15) 1, none⟩]
def c82_r3 : List Ins := [⟨some 7, .nilS 4, none⟩]
def c82_r4 : List Ins := [⟨some 17, .p (.fieldA (.t 6) 2), none⟩,
⟨some 18, .p (.load (.t 17) 1 false), none⟩,
⟨some 19, .p (.len (.t 18)), none⟩,
⟨some 20, .p (.mv (.c (iV 0))), none⟩]
def c82_r5 : List Ins := [⟨some 21, .p (.bin .lss (.t 20) (.t 19)), none⟩]
def c82_r6 : List Ins := [⟨some 22, .p (.mv (.t 20)), none⟩,
⟨some 23, .p (.idxA (.t 18) (.t 20) 4), none⟩,
⟨some 24, .p (.load (.t 23) 4 true), none⟩,
⟨some 9, .alloc [(iV 0), (iV 0), (iV 0), (.bool false)], none⟩,
⟨some 8, .p (.mv (.t 22)), none⟩,
⟨none, .store (.t 9) (.t 24) 4, none⟩]
def c82_r7 : List Ins := [⟨some 25, .p (.fieldA (.t 9) 3), none⟩,
⟨some 26, .p (.load (.t 25) 1 false), none⟩,
⟨some 27, .p (.un .not (.t 26)), none⟩,
⟨some 28, .p (.mv (.t 27)), none⟩,
⟨some 29, .p (.fieldA (.t 9) 1), some (28, true)⟩,
⟨some 30, .p (.load (.t 29) 1 false), some (28, true)⟩,
⟨some 31, .p (.fieldA (.t 6) 0), some (28, true)⟩,
⟨some 32, .p (.load (.t 31) 1 false), some (28, true)⟩,
⟨some 33, .p (.bin .leq (.t 30) (.t 32)), some (28, true)⟩,
⟨some 34, .pick (.t 28) (.t 33) (.c (.bool false)), none⟩]
def c82_r8 : List Ins := [⟨some 35, .p (.fieldA (.t 6) 2), none⟩,
⟨some 36, .p (.load (.t 35) 1 false), none⟩,
⟨some 37, .p (.mv (.t 8)), none⟩,
⟨some 38, .p (.idxA (.t 36) (.t 37) 4), none⟩,
⟨some 39, .p (.fieldA (.t 38) 3), none⟩,
⟨none, .store (.t 39) (.c (.bool true)) 1, none⟩]
def c82_r9 : List Ins := [⟨some 40, .p (.mv (.t 7)), none⟩,
⟨some 41, .p (.load (.t 9) 4 true), none⟩,
⟨some 42, .mkS 4 [(iV 0), (iV 0), (iV 0), (.bool false)] 1 [(0, (.t 41))], none⟩,
⟨some 43, .app 4 32 (.t 40) (.t 42), none⟩,
⟨some 7, .p (.mv (.t 43)), none⟩]
def c82_r10 : List Ins := [⟨some 44, .p (.bin .add (.t 20) (.c (iV 1))), none⟩,
⟨some 20, .p (.mv (.t 44)), none⟩]
def c82_l0 : IR := (.seq (.reg c82_r5) (.seq (.ite (.t 21) .skip (.exit 0)) (.seq (.block 1 (.seq (.reg c82_r6) (.seq (.reg c82_r7) (.ite (.t 34) (.seq (.reg c82_r8) (.reg c82_r9)) .skip)))) (.reg c82_r10))))
def c82_r11 : List Ins := [⟨some 45, .p (.mv (.t 7)), none⟩,
⟨some 46, .call 116 [(.t 45), (.c (.clo 69 []))], none⟩]
def c82_r12 : DP := (.take ⟨some 47, .p (.load (.t 6) 3 true), none⟩
(.take ⟨some 48, .p (.mv (.t 7)), none⟩
(.take ⟨some 49, .p (.build [(iV 0), (iV 0), (.own 3139 0 4 [])] [(2, 1, (.t 48))]), none⟩
(.alt [⟨some 47, .p (.load (.t 6) 3 true), none⟩] ⟨some 50, .call 60 [(.t 49)], none⟩
(.alt [] ⟨none, .store (.t 4) (.t 47) 3, none⟩
(.take ⟨some 5, .p (.mv (.t 50)), none⟩
.fin)
.stop)
.stop))))
def c82 : XFn := { np := 2, nt := 51, res := [.cell 4 3 true, .t 5], body := (.seq (.reg c82_r0) (.seq (.reg c82_r1) (.seq (.reg c82_r2) (.seq (.reg c82_r3) (.seq (.seq (.reg c82_r4) (.block 0 (.loop c82_l0))) (.seq (.reg c82_r11) (.seq (.draw c82_r12) .ret))))))) }
def K82 (C : CRel) : Prop := ∀ (a0 : DTable) (a1 : Int) (r : DTable × (List Int)), g82 a0 a1 = some r → C 82 ⟨[.agg (eDTable a0), iV a1], []⟩ ⟨.tup [.agg [iV r.1.clock, iV r.1.next, .own 0 0 4 (r.1.list_.map eDLease)], .own 1 0 1 (r.2.map eI)], [], []⟩
theorem F82 {C : CRel} (H60 : K60 C) (H69 : K69 C) (H112 : K112 C) (H116 : K116 C) (a0 : DTable) (a1 : Int) (r : DTable × (List Int)) (h0 : g82 a0 a1 = some r) : FnOK C c82 ⟨[.agg (eDTable a0), iV a1], []⟩ ⟨.tup [.agg [iV r.1.clock, iV r.1.next, .own 0 0 4 (r.1.list_.map eDLease)], .own 1 0 1 (r.2.map eI)], [], []⟩ := by
 refine fn_ (nl rfl) ?_
 refine seq_ ?_
 refine reg_ ?_
 refine st (box_ rfl trivial rfl ?_)
 refine st (alloc_ ?_)
 refine st (nilS_ ?_)
 refine oe_ ?_
 refine wk_ ⟨[(1, iV a1), (2, .ptr 128 0), (4, .ptr 256 0)], [(128, [iV a0.clock, iV a0.next, .lst 4 (a0.list_.map eDLease)]), (256, [iV 0, iV 0, .own 259 0 4 (([] : List DLease).map eDLease)])], []⟩ (fgk (by kernel_rfl)) ?_
 refine seq_ ?_
 refine reg_ ?_
 refine st (c_ (v := .agg (eDTable a0)) (cp_ ⟨trivial, trivial⟩ rfl (nl rfl)) ?_)
 obtain ⟨r1, e2, h0⟩ := bnd h0
 refine st (call0_ (r := .agg [iV r1.clock, iV r1.next, .own 0 0 4 (r1.list_.map eDLease)]) false (H112 a0 r1 e2) ⟨trivial, trivial⟩ rfl rfl (fun _ => (and_ rfl (and_ rfl (and_ (fl1 (fun _ => rfl)) rfl)))) ?_)
 refine st (alloc_ ?_)
 refine st (stp_ rfl rfl trivial rfl rfl rfl (nl rfl) ?_)
 refine oe_ ?_
 refine wk_ ⟨[(1, iV a1), (2, .ptr 128 0), (4, .ptr 256 0), (6, .ptr 384 0)], [(128, [iV a0.clock, iV a0.next, .lst 4 (a0.list_.map eDLease)]), (256, [iV 0, iV 0, .own 259 0 4 (([] : List DLease).map eDLease)]), (384, [iV r1.clock, iV r1.next, .own 704 0 4 (r1.list_.map eDLease)])], []⟩ (fgk (by kernel_rfl)) ?_
 refine seq_ ?_
 refine reg_ ?_
 refine st (c_ (cp_ ⟨trivial, trivial⟩ rfl trivial) ?_)
 refine st (c_ (cp_ ⟨trivial, trivial⟩ rfl (nl rfl)) ?_)
 refine st (mv_ rfl trivial ?_)
 refine st (c_ (cp_ ⟨trivial, trivial, trivial⟩ rfl rfl) ?_)
 refine st (c_ (cp_ ⟨trivial, trivial⟩ rfl trivial) ?_)
 refine st (stp_ rfl rfl trivial rfl rfl rfl (nl rfl) ?_)
 refine oe_ ?_
 refine wk_ ⟨[(4, .ptr 256 0), (6, .ptr 384 0)], [(256, [iV 0, iV 0, .own 259 0 4 (([] : List DLease).map eDLease)]), (384, [iV (if a1 > a0.clock then a1 else a0.clock), iV r1.next, .own 704 0 4 (r1.list_.map eDLease)])], []⟩ (fgk (by kernel_rfl)) ?_
 refine seq_ ?_
 refine reg_ ?_
 refine st (nilS_ ?_)
 refine oe_ ?_
 refine wk_ ⟨[(4, .ptr 256 0), (6, .ptr 384 0), (7, .own 448 0 4 ([].map eDLease))], [(256, [iV 0, iV 0, .own 259 0 4 (([] : List DLease).map eDLease)]), (384, [iV (if a1 > a0.clock then a1 else a0.clock), iV r1.next, .own 704 0 4 (r1.list_.map eDLease)])], []⟩ (fgk (by kernel_rfl)) ?_
 refine seq_ ?_
 refine seq_ ?_
 refine reg_ ?_
 refine st (c_ (cp_ ⟨trivial, trivial⟩ rfl trivial) ?_)
 refine st (c_ (cp_ ⟨trivial, trivial⟩ rfl (nl rfl)) ?_)
 refine st (c_ (clenO (e := eDLease) (l0 := r1.list_) rfl rfl trivial) ?_)
 refine st (mvc_ trivial ?_)
 refine oe_ ?_
 refine wk_ ⟨[(4, .ptr 256 0), (6, .ptr 384 0), (7, .own 448 0 4 ([].map eDLease)), (18, .own 704 0 4 (r1.list_.map eDLease)), (19, iV (r1.list_.length : Int)), (20, iV 0)], [(256, [iV 0, iV 0, .own 259 0 4 (([] : List DLease).map eDLease)]), (384, [iV (if a1 > a0.clock then a1 else a0.clock), iV r1.next, .own 704 0 4 (r1.list_.map eDLease)])], []⟩ (fgk (by kernel_rfl)) ?_
 refine block_ ?_
 obtain ⟨r74, e75, h0⟩ := bnd h0
 refine loop_ (R := (fun S => ∃ p43 : List DLease, ∃ p44 : List DLease, (p43, p44) = r74 ∧ S = ⟨[(4, .ptr 256 0), (6, .ptr 384 0), (7, .own 448 0 4 (p43.map eDLease))], [(256, [iV 0, iV 0, .own 259 0 4 (([] : List DLease).map eDLease)]), (384, [iV (if a1 > a0.clock then a1 else a0.clock), iV r1.next, .own 704 0 4 (p44.map eDLease)])], []⟩)) (g82_l0 a0 a1 r1) (fun s S => match s with | (p19, p20, p21) => S = ⟨[(4, .ptr 256 0), (6, .ptr 384 0), (7, .own 448 0 4 (p19.map eDLease)), (18, .own 704 0 4 (p20.map eDLease)), (19, iV (r1.list_.length : Int)), (20, iV p21)], [(256, [iV 0, iV 0, .own 259 0 4 (([] : List DLease).map eDLease)]), (384, [iV (if a1 > a0.clock then a1 else a0.clock), iV r1.next, .own 704 0 4 (p20.map eDLease)])], []⟩) e75 ⟨[(4, .ptr 256 0), (6, .ptr 384 0), (7, .own 448 0 4 ([].map eDLease)), (18, .own 704 0 4 (r1.list_.map eDLease)), (19, iV (r1.list_.length : Int)), (20, iV 0)], [(256, [iV 0, iV 0, .own 259 0 4 (([] : List DLease).map eDLease)]), (384, [iV (if a1 > a0.clock then a1 else a0.clock), iV r1.next, .own 704 0 4 (r1.list_.map eDLease)])], []⟩ (fgk (by kernel_rfl)) rfl 0 (fun _ => rfl) ?_ ?_
 ·rintro S _ hfg ⟨p43, p44, rfl, rfl⟩
  refine wk_ ⟨[(4, .ptr 256 0), (6, .ptr 384 0), (7, .own 448 0 4 (p43.map eDLease))], [(256, [iV 0, iV 0, .own 259 0 4 (([] : List DLease).map eDLease)]), (384, [iV (if a1 > a0.clock then a1 else a0.clock), iV r1.next, .own 704 0 4 (p44.map eDLease)])], []⟩ (fglk hfg (by kernel_rfl)) ?_
  refine seq_ ?_
  refine reg_ ?_
  refine st (mv_ rfl trivial ?_)
  obtain ⟨r76, e77, h0⟩ := bnd h0
  obtain ⟨c78, h0⟩ := grd h0
  refine st (call1_ [] [448] [] false (H116 p43 69 [] (fun z69_0 z69_1 => g69 z69_0 z69_1) (⟨fun _ _ _ _ _ => rfl, fun _ _ _ _ _ => rfl, rfl, fun _ _ _ n => by cases n <;> rfl, fun _ => rfl⟩) (fun z69_0 z69_1 r h => H69 z69_0 z69_1 r h) r76 e77) ⟨trivial, trivial, trivial⟩ (by kernel_rfl) (by kernel_rfl) (by kernel_rfl) (by kernel_rfl) (fun _ => and_ rfl (and_ (fl2 (fun _ => rfl)) rfl)) ?_)
  refine oe_ ?_
  refine wk_ ⟨[(4, .ptr 256 0), (6, .ptr 384 0), (7, .own 448 0 4 (r76.map eDLease))], [(256, [iV 0, iV 0, .own 259 0 4 (([] : List DLease).map eDLease)]), (384, [iV (if a1 > a0.clock then a1 else a0.clock), iV r1.next, .own 704 0 4 (p44.map eDLease)])], []⟩ (fg ⟨rfl, rfl, (congrArg (fun z => some ((z : V))) (row_eq c78)), trivial⟩ ⟨rfl, rfl, trivial⟩) ?_
  refine seq_ ?_
  obtain ⟨r79, e80, h0⟩ := bnd h0
  refine draw_ ?_
  refine dtake trivial (c_ (v := .agg [iV (if a1 > a0.clock then a1 else a0.clock), iV r1.next, .own 704 0 4 (p44.map eDLease)]) (cp_ ⟨trivial, trivial⟩ rfl (nl rfl)) ?_)
  refine ⟨trivial, ?_⟩
  refine dtake trivial (mv_ rfl trivial ?_)
  refine ⟨trivial, ?_⟩
  refine dtake trivial (c_ (v := .agg [iV 0, iV 0, .own 448 0 4 (r76.map eDLease)]) (cp_ ⟨trivial, trivial⟩ rfl ⟨⟨rfl, rfl, nl rfl⟩, trivial⟩) ?_)
  refine ⟨trivial, ?_⟩
  refine dalt (call0_ (r := .own 0 0 1 (r79.map eI)) false (H60 (DTable.mk 0 0 r76) r79 e80) ⟨trivial, trivial⟩ rfl rfl (fun _ => (and_ (fl1 (fun _ => rfl)) rfl)) ?_) dstop
  refine dkw ⟨[(4, .ptr 256 0), (6, .ptr 384 0), (47, .agg [iV (if a1 > a0.clock then a1 else a0.clock), iV r1.next, .own 704 0 4 (p44.map eDLease)]), (50, .own 3200 0 1 (r79.map eI))], [(256, [iV 0, iV 0, .own 259 0 4 (([] : List DLease).map eDLease)]), (384, [iV (if a1 > a0.clock then a1 else a0.clock), iV r1.next, .own 704 0 4 (p44.map eDLease)])], []⟩ (fgk (by kernel_rfl)) ⟨[], ⟨⟨.inl trivial, (again1 (cp_ ⟨trivial, trivial⟩ rfl (nl rfl)) rfl)⟩, trivial⟩, trivial, ?_⟩
  refine dalt (stp_ rfl rfl trivial rfl rfl rfl (nl rfl) ?_) dstop
  refine dk0 ⟨[], trivial, trivial, ?_⟩
  refine dtake trivial (mv_ rfl trivial ?_)
  refine ⟨trivial, ?_⟩
  refine dfin ?_
  refine wk_ ⟨[(4, .ptr 256 0), (5, .own 3200 0 1 (r79.map eI))], [(256, [iV (if a1 > a0.clock then a1 else a0.clock), iV r1.next, .own 704 0 4 (p44.map eDLease)])], []⟩ (fgk (by kernel_rfl)) ?_
  obtain rfl := Option.some.inj h0
  exact rt_ (ret_ rfl rfl rfl rfl rfl trivial)
 ·rintro ⟨p19, p20, p21⟩ o1 _ K1 rfl h1 hx1 hK1 hE1 hR1
  refine seq_ ?_
  refine reg_ ?_
  refine st (c_ (cp_ t3 rfl trivial) ?_)
  refine oe_ ?_
  refine wk_ ⟨[(4, .ptr 256 0), (6, .ptr 384 0), (7, .own 448 0 4 (p19.map eDLease)), (18, .own 704 0 4 (p20.map eDLease)), (19, iV (r1.list_.length : Int)), (20, iV p21), (21, .bool (decide (p21 < (r1.list_.length : Int))))], [(256, [iV 0, iV 0, .own 259 0 4 (([] : List DLease).map eDLease)]), (384, [iV (if a1 > a0.clock then a1 else a0.clock), iV r1.next, .own 704 0 4 (p20.map eDLease)])], []⟩ (fgk (by kernel_rfl)) ?_
  refine seq_ ?_
  refine ite_ (cb := (decide (p21 < (r1.list_.length : Int)))) rfl (fun c45 => ?_) (fun c45 => ?_)
  ·replace h1 := ip c45 h1
   refine sk_ ?_
   refine wk_ ⟨[(4, .ptr 256 0), (6, .ptr 384 0), (7, .own 448 0 4 (p19.map eDLease)), (18, .own 704 0 4 (p20.map eDLease)), (19, iV (r1.list_.length : Int)), (20, iV p21)], [(256, [iV 0, iV 0, .own 259 0 4 (([] : List DLease).map eDLease)]), (384, [iV (if a1 > a0.clock then a1 else a0.clock), iV r1.next, .own 704 0 4 (p20.map eDLease)])], []⟩ (fgk (by kernel_rfl)) ?_
   refine seq_ ?_
   refine blockJ (fun S => ∃ p58 : List DLease, ∃ p59 : List DLease, S = ⟨[(4, .ptr 256 0), (6, .ptr 384 0), (7, .own 448 0 4 (p58.map eDLease)), (18, .own 704 0 4 (p59.map eDLease)), (19, iV (r1.list_.length : Int)), (20, iV p21)], [(256, [iV 0, iV 0, .own 259 0 4 (([] : List DLease).map eDLease)]), (384, [iV (if a1 > a0.clock then a1 else a0.clock), iV r1.next, .own 704 0 4 (p59.map eDLease)])], []⟩ ∧ g82_j0 p21 p58 p59 = some o1) ?_ (fun J61 => ?_)
   ·rintro _ ⟨p58, p59, rfl, h1⟩
    refine wk_ ⟨[(4, .ptr 256 0), (6, .ptr 384 0), (7, .own 448 0 4 (p58.map eDLease)), (18, .own 704 0 4 (p59.map eDLease)), (19, iV (r1.list_.length : Int)), (20, iV p21)], [(256, [iV 0, iV 0, .own 259 0 4 (([] : List DLease).map eDLease)]), (384, [iV (if a1 > a0.clock then a1 else a0.clock), iV r1.next, .own 704 0 4 (p59.map eDLease)])], []⟩ (fgk (by kernel_rfl)) ?_
    refine reg_ ?_
    refine st (c_ (cp_ t3 rfl trivial) ?_)
    refine st (mv_ rfl trivial ?_)
    refine oe_ ?_
    obtain rfl := Option.some.inj h1
    exact hK1 _ rfl _ ⟨[(4, .ptr 256 0), (6, .ptr 384 0), (7, .own 448 0 4 (p58.map eDLease)), (18, .own 704 0 4 (p59.map eDLease)), (19, iV (r1.list_.length : Int)), (20, iV (IntKind.i64.wrap (p21 + 1)))], [(256, [iV 0, iV 0, .own 259 0 4 (([] : List DLease).map eDLease)]), (384, [iV (if a1 > a0.clock then a1 else a0.clock), iV r1.next, .own 704 0 4 (p59.map eDLease)])], []⟩ (fgk (by kernel_rfl)) rfl
   ·refine seq_ ?_
    refine reg_ ?_
    refine st (mv_ rfl trivial ?_)
    obtain ⟨y62, e63, h1⟩ := bnd h1
    refine st (c_ (cidxO (e := eDLease) (y := y62) rfl rfl trivial rfl rfl trivial e63) ?_)
    obtain ⟨y64, e65, h1⟩ := bnd h1
    refine st (c_ (v := .agg (eDLease y64)) (cloadO (e := eDLease) (y := y64) (v := .agg (eDLease y64)) rfl rfl trivial rfl rfl e65 rfl (nl rfl) rfl) ?_)
    refine st (alloc_ ?_)
    refine st (mv_ rfl trivial ?_)
    refine st (stp_ rfl rfl trivial rfl rfl rfl (nl rfl) ?_)
    refine oe_ ?_
    refine wk_ ⟨[(4, .ptr 256 0), (6, .ptr 384 0), (7, .own 448 0 4 (p19.map eDLease)), (8, iV p21), (9, .ptr 576 0), (18, .own 704 0 4 (p20.map eDLease)), (19, iV (r1.list_.length : Int)), (20, iV p21)], [(256, [iV 0, iV 0, .own 259 0 4 (([] : List DLease).map eDLease)]), (384, [iV (if a1 > a0.clock then a1 else a0.clock), iV r1.next, .own 704 0 4 (p20.map eDLease)]), (576, [iV y64.id, iV y64.until_, iV y64.cap, .bool y64.queued])], []⟩ (fgk (by kernel_rfl)) ?_
    refine seq_ ?_
    refine reg_ ?_
    refine st (c_ (cp_ ⟨trivial, trivial⟩ rfl trivial) ?_)
    refine st (c_ (cp_ ⟨trivial, trivial⟩ rfl (nl rfl)) ?_)
    refine st (c_ (cp_ ⟨trivial, trivial⟩ rfl trivial) ?_)
    refine st (mv_ rfl trivial ?_)
    refine st (pg_ (u := .ptr 576 1) rfl (fun hg => (cp_ ⟨trivial, trivial⟩ rfl trivial)) ?_)
    refine st (pg_ (u := iV y64.until_) rfl (fun hg => (cp_ ⟨(fun _ => hg), trivial⟩ rfl (nl rfl))) ?_)
    refine st (pg_ (u := .ptr 384 0) rfl (fun hg => (cp_ ⟨trivial, trivial⟩ rfl trivial)) ?_)
    refine st (pg_ (u := iV (if a1 > a0.clock then a1 else a0.clock)) rfl (fun hg => (cp_ ⟨(fun _ => hg), trivial⟩ rfl (nl rfl))) ?_)
    refine st (pg_ (u := .bool (decide (y64.until_ ≤ (if a1 > a0.clock then a1 else a0.clock)))) rfl (fun hg => (cp_ ⟨(fun _ => hg), (fun _ => hg), trivial⟩ rfl trivial)) ?_)
    refine st (pick_ rfl rfl rfl (fun h => eqt h) trivial rfl ?_)
    refine oe_ ?_
    obtain ⟨v66, e67, h1⟩ := bl h1
    refine wk_ ⟨[(4, .ptr 256 0), (6, .ptr 384 0), (7, .own 448 0 4 (p19.map eDLease)), (8, iV p21), (9, .ptr 576 0), (18, .own 704 0 4 (p20.map eDLease)), (19, iV (r1.list_.length : Int)), (20, iV p21), (34, .bool v66)], [(256, [iV 0, iV 0, .own 259 0 4 (([] : List DLease).map eDLease)]), (384, [iV (if a1 > a0.clock then a1 else a0.clock), iV r1.next, .own 704 0 4 (p20.map eDLease)]), (576, [iV y64.id, iV y64.until_, iV y64.cap, .bool y64.queued])], []⟩ (fgk (by subst e67; kernel_rfl)) ?_
    refine ite_ (cb := v66) rfl (fun c68 => ?_) (fun c68 => ?_)
    ·replace h1 := ip c68 h1
     refine seq_ ?_
     refine reg_ ?_
     refine st (c_ (cp_ ⟨trivial, trivial⟩ rfl trivial) ?_)
     refine st (c_ (cp_ ⟨trivial, trivial⟩ rfl (nl rfl)) ?_)
     refine st (mv_ rfl trivial ?_)
     obtain ⟨y69, e70, h1⟩ := bnd h1
     refine st (c_ (cidxO (e := eDLease) (y := y69) rfl rfl trivial rfl rfl trivial e70) ?_)
     refine st (c_ (cp_ ⟨trivial, trivial⟩ rfl trivial) ?_)
     obtain ⟨y71, e72, h1⟩ := bnd h1
     refine st (sto_ (y' := (DLease.mk y71.id y71.until_ y71.cap true)) rfl rfl trivial rfl rfl rfl rfl e72 (nl rfl) rfl rfl rfl rfl ?_)
     refine oe_ ?_
     refine wk_ ⟨[(4, .ptr 256 0), (6, .ptr 384 0), (7, .own 448 0 4 (p19.map eDLease)), (9, .ptr 576 0), (18, .own 704 0 4 ((p20.set p21.toNat (DLease.mk y71.id y71.until_ y71.cap true)).map eDLease)), (19, iV (r1.list_.length : Int)), (20, iV p21)], [(256, [iV 0, iV 0, .own 259 0 4 (([] : List DLease).map eDLease)]), (384, [iV (if a1 > a0.clock then a1 else a0.clock), iV r1.next, .own 704 0 4 ((p20.set p21.toNat (DLease.mk y71.id y71.until_ y71.cap true)).map eDLease)]), (576, [iV y64.id, iV y64.until_, iV y64.cap, .bool y64.queued])], []⟩ (fg ⟨rfl, rfl, rfl, rfl, (congrArg (fun z => some ((.own 704 0 4 z : V))) overlay_map), rfl, rfl, trivial⟩ ⟨rfl, (congrArg (fun z => some (([iV (if a1 > a0.clock then a1 else a0.clock), iV r1.next, .own 704 0 4 z] : List V))) overlay_map), rfl, trivial⟩) ?_
     refine reg_ ?_
     refine st (mv_ rfl trivial ?_)
     refine st (c_ (v := .agg (eDLease y64)) (cp_ ⟨trivial, trivial⟩ rfl (nl rfl)) ?_)
     refine st (mkS_ ⟨trivial, trivial⟩ ⟨⟨nl rfl, rfl, rfl⟩, trivial⟩ ?_)
     obtain ⟨c73, h1⟩ := grd h1
     refine st (app_ (e := eDLease) (l0 := p19) (l1 := ([y64] : List DLease)) rfl rfl trivial rfl (by decide) c73 ?_)
     refine st (mv_ rfl trivial ?_)
     refine oe_ ?_
     refine bn_ ?_
     exact J61 _ ⟨[(4, .ptr 256 0), (6, .ptr 384 0), (7, .own 448 0 4 ((p19 ++ ([y64] : List DLease)).map eDLease)), (18, .own 704 0 4 ((p20.set p21.toNat (DLease.mk y71.id y71.until_ y71.cap true)).map eDLease)), (19, iV (r1.list_.length : Int)), (20, iV p21)], [(256, [iV 0, iV 0, .own 259 0 4 (([] : List DLease).map eDLease)]), (384, [iV (if a1 > a0.clock then a1 else a0.clock), iV r1.next, .own 704 0 4 ((p20.set p21.toNat (DLease.mk y71.id y71.until_ y71.cap true)).map eDLease)])], []⟩ (fgk (by kernel_rfl)) ⟨_, _, rfl, h1⟩
    ·replace h1 := inb c68 h1
     refine sk_ ?_
     refine bn_ ?_
     exact J61 _ ⟨[(4, .ptr 256 0), (6, .ptr 384 0), (7, .own 448 0 4 (p19.map eDLease)), (18, .own 704 0 4 (p20.map eDLease)), (19, iV (r1.list_.length : Int)), (20, iV p21)], [(256, [iV 0, iV 0, .own 259 0 4 (([] : List DLease).map eDLease)]), (384, [iV (if a1 > a0.clock then a1 else a0.clock), iV r1.next, .own 704 0 4 (p20.map eDLease)])], []⟩ (fgk (by kernel_rfl)) ⟨_, _, rfl, h1⟩
  ·replace h1 := inb c45 h1
   obtain rfl := Option.some.inj h1
   obtain rfl := hx1 _ rfl
   refine exQ rfl ?_
   exact hE1 _ ⟨[(4, .ptr 256 0), (6, .ptr 384 0), (7, .own 448 0 4 (p19.map eDLease))], [(256, [iV 0, iV 0, .own 259 0 4 (([] : List DLease).map eDLease)]), (384, [iV (if a1 > a0.clock then a1 else a0.clock), iV r1.next, .own 704 0 4 (p20.map eDLease)])], []⟩ (fgk (by kernel_rfl)) ⟨_, _, rfl, rfl⟩

/- loop.example/g00149/impl.Tick -/
def c35_r0 : List Ins := [⟨some 2, .box (.t 0), none⟩,
⟨some 4, .alloc [(iV 0), (iV 0), (.own 259 0 4 [])], none⟩,
⟨some 5, .nilS 1, none⟩,
⟨some 6, .p (.mv (.c (iV 0))), none⟩]
def c35_r1 : List Ins := [⟨some 9, .p (.load (.t 2) 3 true), none⟩,
⟨some 10, .call 20 [(.t 9)], none⟩,
⟨some 11, .p (.un .not (.t 10)), none⟩]
def c35_r2 : List Ins := [⟨some 12, .p (.build [(iV 0), (iV 0), (.own 771 0 4 [])] []), none⟩,
⟨none, .store (.t 4) (.t 12) 3, none⟩,
⟨some 5, .nilS 1, none⟩,
⟨some 6, .p (.mv (.c (iV 1))), none⟩]
def c35_r3 : List Ins := [⟨some 14, .p (.load (.t 2) 3 true), none⟩,
⟨some 15, .p (.mv (.t 1)), none⟩,
⟨some 16, .call 82 [(.t 14), (.t 15)], none⟩,
⟨some 13, .p (.mv (.t 16)), none⟩,
⟨some 17, .p (.ext (.t 13) 0), none⟩,
⟨some 18, .p (.ext (.t 13) 1), none⟩,
⟨some 7, .alloc [(iV 0), (iV 0), (.own 451 0 4 [])], none⟩,
⟨none, .store (.t 7) (.t 17) 3, none⟩,
⟨some 8, .p (.mv (.t 18)), none⟩]
def c35_r4 : List Ins := [⟨some 19, .p (.load (.t 7) 3 true), none⟩,
⟨some 20, .p (.mv (.t 8)), none⟩,
⟨none, .store (.t 4) (.t 19) 3, none⟩,
⟨some 5, .p (.mv (.t 20)), none⟩,
⟨some 6, .p (.mv (.c (iV 0))), none⟩]
def c35 : XFn := { np := 2, nt := 21, res := [.cell 4 3 true, .t 5, .t 6], body := (.seq (.reg c35_r0) (.seq (.seq (.reg c35_r1) (.ite (.t 11) (.seq (.reg c35_r2) .ret) .skip)) (.seq (.reg c35_r3) (.seq (.reg c35_r4) .ret)))) }
def K35 (C : CRel) : Prop := ∀ (a0 : DTable) (a1 : Int) (r : DTable × (List Int) × Int), g35 a0 a1 = some r → C 35 ⟨[.agg (eDTable a0), iV a1], []⟩ ⟨.tup [.agg [iV r.1.clock, iV r.1.next, .own 0 0 4 (r.1.list_.map eDLease)], .own 1 0 1 (r.2.1.map eI), iV r.2.2], [], []⟩
theorem F35 {C : CRel} (H20 : K20 C) (H82 : K82 C) (a0 : DTable) (a1 : Int) (r : DTable × (List Int) × Int) (h0 : g35 a0 a1 = some r) : FnOK C c35 ⟨[.agg (eDTable a0), iV a1], []⟩ ⟨.tup [.agg [iV r.1.clock, iV r.1.next, .own 0 0 4 (r.1.list_.map eDLease)], .own 1 0 1 (r.2.1.map eI), iV r.2.2], [], []⟩ := by
 refine fn_ (nl rfl) ?_
 refine seq_ ?_
 refine reg_ ?_
 refine st (box_ rfl trivial rfl ?_)
 refine st (alloc_ ?_)
 refine st (nilS_ ?_)
 refine st (mvc_ trivial ?_)
 refine oe_ ?_
 refine wk_ ⟨[(1, iV a1), (2, .ptr 128 0), (4, .ptr 256 0)], [(128, [iV a0.clock, iV a0.next, .lst 4 (a0.list_.map eDLease)]), (256, [iV 0, iV 0, .own 259 0 4 (([] : List DLease).map eDLease)])], []⟩ (fgk (by kernel_rfl)) ?_
 refine seq_ ?_
 refine seq_ ?_
 refine reg_ ?_
 refine st (c_ (v := .agg (eDTable a0)) (cp_ ⟨trivial, trivial⟩ rfl (nl rfl)) ?_)
 obtain ⟨r1, e2, h0⟩ := bnd h0
 refine st (call0_ (r := .bool r1) false (H20 a0 r1 e2) ⟨trivial, trivial⟩ rfl rfl (fun _ => rfl) ?_)
 refine st (c_ (cp_ ⟨trivial, trivial⟩ rfl trivial) ?_)
 refine oe_ ?_
 refine wk_ ⟨[(1, iV a1), (2, .ptr 128 0), (4, .ptr 256 0), (11, .bool (!r1))], [(128, [iV a0.clock, iV a0.next, .lst 4 (a0.list_.map eDLease)]), (256, [iV 0, iV 0, .own 259 0 4 (([] : List DLease).map eDLease)])], []⟩ (fgk (by kernel_rfl)) ?_
 refine ite_ (cb := (!r1)) rfl (fun c3 => ?_) (fun c3 => ?_)
 ·replace h0 := ip c3 h0
  refine seq_ ?_
  refine reg_ ?_
  refine st (c_ (v := .agg [iV 0, iV 0, .own 771 0 4 (([] : List DLease).map eDLease)]) (cp_ trivial rfl trivial) ?_)
  refine st (stp_ rfl rfl trivial rfl rfl rfl (nl rfl) ?_)
  refine st (nilS_ ?_)
  refine st (mvc_ trivial ?_)
  refine oe_ ?_
  refine wk_ ⟨[(4, .ptr 256 0), (5, .own 320 0 1 ([].map eI)), (6, iV 1)], [(256, [iV 0, iV 0, .own 771 0 4 (([] : List DLease).map eDLease)])], []⟩ (fgk (by kernel_rfl)) ?_
  obtain rfl := Option.some.inj h0
  exact rt_ (ret_ rfl rfl rfl rfl rfl trivial)
 ·replace h0 := inb c3 h0
  refine sk_ ?_
  refine wk_ ⟨[(1, iV a1), (2, .ptr 128 0), (4, .ptr 256 0)], [(128, [iV a0.clock, iV a0.next, .lst 4 (a0.list_.map eDLease)]), (256, [iV 0, iV 0, .own 259 0 4 (([] : List DLease).map eDLease)])], []⟩ (fgk (by kernel_rfl)) ?_
  refine seq_ ?_
  refine reg_ ?_
  refine st (c_ (v := .agg (eDTable a0)) (cp_ ⟨trivial, trivial⟩ rfl (nl rfl)) ?_)
  refine st (mv_ rfl trivial ?_)
  obtain ⟨r4, e5, h0⟩ := bnd h0
  refine st (call0_ (r := .tup [.agg [iV r4.1.clock, iV r4.1.next, .own 0 0 4 (r4.1.list_.map eDLease)], .own 1 0 1 (r4.2.map eI)]) false (H82 a0 a1 r4 e5) ⟨trivial, trivial, trivial⟩ rfl rfl (fun _ => (and_ rfl (and_ rfl (and_ (fl1 (fun _ => rfl)) (and_ (fl1 (fun _ => rfl)) rfl))))) ?_)
  refine st (mv_ rfl trivial ?_)
  refine st (c_ (cp_ ⟨trivial, trivial⟩ rfl trivial) ?_)
  refine st (c_ (cp_ ⟨trivial, trivial⟩ rfl trivial) ?_)
  refine st (alloc_ ?_)
  refine st (stp_ rfl rfl trivial rfl rfl rfl (nl rfl) ?_)
  refine sw ⟨[(4, .ptr 256 0), (7, .ptr 448 0), (18, .own 1025 0 1 (r4.2.map eI))], [(256, [iV 0, iV 0, .own 259 0 4 (([] : List DLease).map eDLease)]), (448, [iV r4.1.clock, iV r4.1.next, .own 1024 0 4 (r4.1.list_.map eDLease)])], []⟩ (fgk (by kernel_rfl)) (mv_ rfl trivial ?_)
  refine oe_ ?_
  refine wk_ ⟨[(4, .ptr 256 0), (7, .ptr 448 0), (8, .own 1025 0 1 (r4.2.map eI))], [(256, [iV 0, iV 0, .own 259 0 4 (([] : List DLease).map eDLease)]), (448, [iV r4.1.clock, iV r4.1.next, .own 1024 0 4 (r4.1.list_.map eDLease)])], []⟩ (fgk (by kernel_rfl)) ?_
  refine seq_ ?_
  refine reg_ ?_
  refine st (c_ (v := .agg [iV r4.1.clock, iV r4.1.next, .own 1024 0 4 (r4.1.list_.map eDLease)]) (cp_ ⟨trivial, trivial⟩ rfl (nl rfl)) ?_)
  refine st (mv_ rfl trivial ?_)
  refine st (stp_ rfl rfl trivial rfl rfl rfl (nl rfl) ?_)
  refine st (mv_ rfl trivial ?_)
  refine st (mvc_ trivial ?_)
  refine oe_ ?_
  refine wk_ ⟨[(4, .ptr 256 0), (5, .own 1025 0 1 (r4.2.map eI)), (6, iV 0)], [(256, [iV r4.1.clock, iV r4.1.next, .own 1024 0 4 (r4.1.list_.map eDLease)])], []⟩ (fgk (by kernel_rfl)) ?_
  obtain rfl := Option.some.inj h0
  exact rt_ (ret_ rfl rfl rfl rfl rfl trivial)

/- loop.example/g00149/laws.eqIntS -/
def c36_r0 : List Ins := [⟨some 4, .p (.mv (.c (.bool false))), none⟩]
def c36_r1 : List Ins := [⟨some 6, .p (.mv (.t 0)), none⟩,
⟨some 7, .p (.len (.t 6)), none⟩,
⟨some 8, .p (.mv (.t 1)), none⟩,
⟨some 9, .p (.len (.t 8)), none⟩,
⟨some 10, .p (.bin .neq (.t 7) (.t 9)), none⟩]
def c36_r2 : List Ins := [⟨some 4, .p (.mv (.c (.bool false))), none⟩]
def c36_r3 : List Ins := [⟨some 5, .p (.mv (.c (iV 0))), none⟩]
def c36_r4 : List Ins := [⟨some 11, .p (.mv (.t 5)), none⟩,
⟨some 12, .p (.mv (.t 0)), none⟩,
⟨some 13, .p (.len (.t 12)), none⟩,
⟨some 14, .p (.bin .lss (.t 11) (.t 13)), none⟩]
def c36_r5 : DP := (.take ⟨some 17, .p (.mv (.t 0)), none⟩
(.take ⟨some 18, .p (.mv (.t 5)), none⟩
(.take ⟨some 19, .p (.idxA (.t 17) (.t 18) 1), none⟩
(.take ⟨some 20, .p (.load (.t 19) 1 false), none⟩
(.take ⟨some 21, .p (.mv (.t 1)), none⟩
(.take ⟨some 22, .p (.mv (.t 5)), none⟩
(.take ⟨some 23, .p (.idxA (.t 21) (.t 22) 1), none⟩
(.take ⟨some 24, .p (.load (.t 23) 1 false), none⟩
(.take ⟨some 25, .p (.bin .neq (.t 20) (.t 24)), none⟩
.fin)))))))))
def c36_r6 : List Ins := [⟨some 4, .p (.mv (.c (.bool false))), none⟩]
def c36_r7 : List Ins := [⟨some 15, .p (.mv (.t 5)), none⟩,
⟨some 16, .p (.bin .add (.t 15) (.c (iV 1))), none⟩,
⟨some 5, .p (.mv (.t 16)), none⟩]
def c36_l0 : IR := (.seq (.seq (.reg c36_r4) (.ite (.t 14) .skip (.exit 0))) (.seq (.block 1 (.seq (.draw c36_r5) (.ite (.t 25) (.seq (.reg c36_r6) .ret) .skip))) (.reg c36_r7)))
def c36_r8 : List Ins := [⟨some 4, .p (.mv (.c (.bool true))), none⟩]
def c36 : XFn := { np := 2, nt := 26, res := [.t 4], body := (.seq (.reg c36_r0) (.seq (.seq (.reg c36_r1) (.ite (.t 10) (.seq (.reg c36_r2) .ret) .skip)) (.seq (.seq (.reg c36_r3) (.block 0 (.loop c36_l0))) (.seq (.reg c36_r8) .ret)))) }
def K36 (C : CRel) : Prop := ∀ (a0 : List Int) (a1 : List Int) (r : Bool), g36 a0 a1 = some r → C 36 ⟨[.lst 1 (a0.map eI), .lst 1 (a1.map eI)], []⟩ ⟨.bool r, [], []⟩
theorem F36 {C : CRel}  (a0 : List Int) (a1 : List Int) (r : Bool) (h0 : g36 a0 a1 = some r) : FnOK C c36 ⟨[.lst 1 (a0.map eI), .lst 1 (a1.map eI)], []⟩ ⟨.bool r, [], []⟩ := by
 refine fn_ (nl rfl) ?_
 refine seq_ ?_
 refine reg_ ?_
 refine st (mvc_ trivial ?_)
 refine oe_ ?_
 refine wk_ ⟨[(0, .lst 1 (a0.map eI)), (1, .lst 1 (a1.map eI))], [], []⟩ (fgk (by kernel_rfl)) ?_
 refine seq_ ?_
 refine seq_ ?_
 refine reg_ ?_
 refine st (mv_ rfl trivial ?_)
 refine st (c_ (clenL (e := eI) (l0 := a0) rfl rfl trivial) ?_)
 refine st (mv_ rfl trivial ?_)
 refine st (c_ (clenL (e := eI) (l0 := a1) rfl rfl trivial) ?_)
 refine st (c_ (cp_ t3 rfl trivial) ?_)
 refine oe_ ?_
 refine wk_ ⟨[(0, .lst 1 (a0.map eI)), (1, .lst 1 (a1.map eI)), (10, .bool ((a0.length : Int) != (a1.length : Int)))], [], []⟩ (fgk (by kernel_rfl)) ?_
 refine ite_ (cb := ((a0.length : Int) != (a1.length : Int))) rfl (fun c1 => ?_) (fun c1 => ?_)
 ·replace h0 := ip c1 h0
  refine seq_ ?_
  refine reg_ ?_
  refine st (mvc_ trivial ?_)
  refine oe_ ?_
  refine wk_ ⟨[(4, .bool false)], [], []⟩ (fgk (by kernel_rfl)) ?_
  obtain rfl := Option.some.inj h0
  exact rt_ (ret_ rfl rfl rfl rfl rfl trivial)
 ·replace h0 := inb c1 h0
  refine sk_ ?_
  refine wk_ ⟨[(0, .lst 1 (a0.map eI)), (1, .lst 1 (a1.map eI))], [], []⟩ (fgk (by kernel_rfl)) ?_
  refine seq_ ?_
  refine seq_ ?_
  refine reg_ ?_
  refine st (mvc_ trivial ?_)
  refine oe_ ?_
  refine wk_ ⟨[(0, .lst 1 (a0.map eI)), (1, .lst 1 (a1.map eI)), (5, iV 0)], [], []⟩ (fgk (by kernel_rfl)) ?_
  refine block_ ?_
  obtain ⟨r22, e23, h0⟩ := bnd h0
  refine loop_ (R := (fun S => .inl () = r22 ∧ S = ⟨[], [], []⟩)) (g36_l0 a0 a1) (fun s S => match s with | p8 => S = ⟨[(0, .lst 1 (a0.map eI)), (1, .lst 1 (a1.map eI)), (5, iV p8)], [], []⟩) e23 ⟨[(0, .lst 1 (a0.map eI)), (1, .lst 1 (a1.map eI)), (5, iV 0)], [], []⟩ (fgk (by kernel_rfl)) rfl 0 (fun _ => rfl) ?_ ?_
  ·rintro S _ hfg ⟨rfl, rfl⟩
   refine wk_ ⟨[], [], []⟩ (fglk hfg (by kernel_rfl)) ?_
   refine seq_ ?_
   refine reg_ ?_
   refine st (mvc_ trivial ?_)
   refine oe_ ?_
   refine wk_ ⟨[(4, .bool true)], [], []⟩ (fgk (by kernel_rfl)) ?_
   obtain rfl := Option.some.inj h0
   exact rt_ (ret_ rfl rfl rfl rfl rfl trivial)
  ·rintro p8 o1 _ K1 rfl h1 hx1 hK1 hE1 hR1
   refine seq_ ?_
   refine seq_ ?_
   refine reg_ ?_
   refine st (mv_ rfl trivial ?_)
   refine st (mv_ rfl trivial ?_)
   refine st (c_ (clenL (e := eI) (l0 := a0) rfl rfl trivial) ?_)
   refine st (c_ (cp_ t3 rfl trivial) ?_)
   refine oe_ ?_
   refine wk_ ⟨[(0, .lst 1 (a0.map eI)), (1, .lst 1 (a1.map eI)), (5, iV p8), (14, .bool (decide (p8 < (a0.length : Int))))], [], []⟩ (fgk (by kernel_rfl)) ?_
   refine ite_ (cb := (decide (p8 < (a0.length : Int)))) rfl (fun c16 => ?_) (fun c16 => ?_)
   ·replace h1 := ip c16 h1
    refine sk_ ?_
    refine wk_ ⟨[(0, .lst 1 (a0.map eI)), (1, .lst 1 (a1.map eI)), (5, iV p8)], [], []⟩ (fgk (by kernel_rfl)) ?_
    refine seq_ ?_
    refine block_ ?_
    refine seq_ ?_
    obtain ⟨y17, e18, h1⟩ := bnd h1
    obtain ⟨y19, e20, h1⟩ := bnd h1
    refine draw_ ?_
    refine dtake trivial (mv_ rfl trivial ?_)
    refine ⟨trivial, ?_⟩
    refine dtake trivial (mv_ rfl trivial ?_)
    refine ⟨trivial, ?_⟩
    refine dtake trivial (c_ (cidxL (e := eI) (y := y17) rfl rfl trivial rfl rfl trivial e18) ?_)
    refine ⟨trivial, ?_⟩
    refine dtake trivial (c_ (cp_ ⟨trivial, trivial⟩ rfl (nl rfl)) ?_)
    refine ⟨trivial, ?_⟩
    refine dtake trivial (mv_ rfl trivial ?_)
    refine ⟨trivial, ?_⟩
    refine dtake trivial (mv_ rfl trivial ?_)
    refine ⟨trivial, ?_⟩
    refine dtake trivial (c_ (cidxL (e := eI) (y := y19) rfl rfl trivial rfl rfl trivial e20) ?_)
    refine ⟨trivial, ?_⟩
    refine dtake trivial (c_ (cp_ ⟨trivial, trivial⟩ rfl (nl rfl)) ?_)
    refine ⟨trivial, ?_⟩
    refine dtake trivial (c_ (cp_ t3 rfl trivial) ?_)
    refine ⟨trivial, ?_⟩
    refine dfin ?_
    refine wk_ ⟨[(0, .lst 1 (a0.map eI)), (1, .lst 1 (a1.map eI)), (5, iV p8), (25, .bool (y17 != y19))], [], []⟩ (fgk (by kernel_rfl)) ?_
    refine ite_ (cb := (y17 != y19)) rfl (fun c21 => ?_) (fun c21 => ?_)
    ·replace h1 := ip c21 h1
     refine seq_ ?_
     refine reg_ ?_
     refine st (mvc_ trivial ?_)
     refine oe_ ?_
     refine wk_ ⟨[(4, .bool false)], [], []⟩ (fgk (by kernel_rfl)) ?_
     obtain rfl := Option.some.inj h1
     obtain rfl := hx1 _ rfl
     obtain rfl := Option.some.inj h0
     exact rt_ (hR1 _ (ret_ rfl rfl rfl rfl rfl trivial))
    ·replace h1 := inb c21 h1
     refine sk_ ?_
     refine bn_ ?_
     refine wk_ ⟨[(0, .lst 1 (a0.map eI)), (1, .lst 1 (a1.map eI)), (5, iV p8)], [], []⟩ (fgk (by kernel_rfl)) ?_
     refine reg_ ?_
     refine st (mv_ rfl trivial ?_)
     refine st (c_ (cp_ t3 rfl trivial) ?_)
     refine st (mv_ rfl trivial ?_)
     refine oe_ ?_
     obtain rfl := Option.some.inj h1
     exact hK1 _ rfl _ ⟨[(0, .lst 1 (a0.map eI)), (1, .lst 1 (a1.map eI)), (5, iV (IntKind.i64.wrap (p8 + 1)))], [], []⟩ (fgk (by kernel_rfl)) rfl
   ·replace h1 := inb c16 h1
    obtain rfl := Option.some.inj h1
    obtain rfl := hx1 _ rfl
    refine exQ rfl ?_
    exact hE1 _ ⟨[], [], []⟩ (fgk (by kernel_rfl)) ⟨rfl, rfl⟩

/- loop.example/g00149/laws.markIntS -/
def c37_r0 : List Ins := [⟨some 4, .p (.mv (.c (iV 0))), none⟩]
def c37_r1 : List Ins := [⟨some 5, .p (.mv (.c (iV 0))), none⟩]
def c37_r2 : List Ins := [⟨some 6, .p (.mv (.t 5)), none⟩,
⟨some 7, .p (.mv (.t 0)), none⟩,
⟨some 8, .p (.len (.t 7)), none⟩,
⟨some 9, .p (.bin .lss (.t 6) (.t 8)), none⟩]
def c37_r3 : List Ins := [⟨some 12, .p (.mv (.t 0)), none⟩,
⟨some 13, .p (.mv (.t 5)), none⟩,
⟨some 14, .p (.mv (.t 1)), none⟩,
⟨some 15, .p (.idxA (.t 12) (.t 13) 1), none⟩,
⟨none, .store (.t 15) (.t 14) 1, none⟩]
def c37_r4 : List Ins := [⟨some 16, .p (.mv (.t 1)), none⟩,
⟨some 17, .p (.bin .add (.t 16) (.c (iV 1))), none⟩,
⟨some 1, .p (.mv (.t 17)), none⟩]
def c37_r5 : List Ins := [⟨some 10, .p (.mv (.t 5)), none⟩,
⟨some 11, .p (.bin .add (.t 10) (.c (iV 1))), none⟩,
⟨some 5, .p (.mv (.t 11)), none⟩]
def c37_l0 : IR := (.seq (.seq (.reg c37_r2) (.ite (.t 9) .skip (.exit 0))) (.seq (.block 1 (.seq (.reg c37_r3) (.reg c37_r4))) (.reg c37_r5)))
def c37_r6 : List Ins := [⟨some 18, .p (.mv (.t 1)), none⟩,
⟨some 4, .p (.mv (.t 18)), none⟩]
def c37 : XFn := { np := 2, nt := 19, res := [.t 4], body := (.seq (.reg c37_r0) (.seq (.seq (.reg c37_r1) (.block 0 (.loop c37_l0))) (.seq (.reg c37_r6) .ret))) }
def K37 (C : CRel) : Prop := ∀ (a0 : List Int) (a1 : Int) (r : Int × (List Int)), g37 a0 a1 = some r → C 37 ⟨[.own 2097152 0 1 (a0.map eI), iV a1], []⟩ ⟨iV r.1, [], [(0, 1, r.2.map eI)]⟩
theorem F37 {C : CRel}  (a0 : List Int) (a1 : Int) (r : Int × (List Int)) (h0 : g37 a0 a1 = some r) : FnOK C c37 ⟨[.own 2097152 0 1 (a0.map eI), iV a1], []⟩ ⟨iV r.1, [], [(0, 1, r.2.map eI)]⟩ := by
 refine fn_ (nl rfl) ?_
 refine seq_ ?_
 refine reg_ ?_
 refine st (mvc_ trivial ?_)
 refine oe_ ?_
 refine wk_ ⟨[(0, .own 2097152 0 1 (a0.map eI)), (1, iV a1)], [], []⟩ (fgk (by kernel_rfl)) ?_
 refine seq_ ?_
 refine seq_ ?_
 refine reg_ ?_
 refine st (mvc_ trivial ?_)
 refine oe_ ?_
 refine wk_ ⟨[(0, .own 2097152 0 1 (a0.map eI)), (1, iV a1), (5, iV 0)], [], []⟩ (fgk (by kernel_rfl)) ?_
 refine block_ ?_
 obtain ⟨r24, e25, h0⟩ := bnd h0
 refine loop_ (R := (fun S => ∃ p17 : List Int, ∃ p18 : Int, (p17, p18) = r24 ∧ S = ⟨[(0, .own 2097152 0 1 (p17.map eI)), (1, iV p18)], [], []⟩)) (g37_l0) (fun s S => match s with | (p6, p7, p8) => S = ⟨[(0, .own 2097152 0 1 (p6.map eI)), (1, iV p7), (5, iV p8)], [], []⟩) e25 ⟨[(0, .own 2097152 0 1 (a0.map eI)), (1, iV a1), (5, iV 0)], [], []⟩ (fgk (by kernel_rfl)) rfl 0 (fun _ => rfl) ?_ ?_
 ·rintro S _ hfg ⟨p17, p18, rfl, rfl⟩
  refine wk_ ⟨[(0, .own 2097152 0 1 (p17.map eI)), (1, iV p18)], [], []⟩ (fglk hfg (by kernel_rfl)) ?_
  refine seq_ ?_
  refine reg_ ?_
  refine st (mv_ rfl trivial ?_)
  refine st (mv_ rfl trivial ?_)
  refine oe_ ?_
  refine wk_ ⟨[(0, .own 2097152 0 1 (p17.map eI)), (4, iV p18)], [], []⟩ (fgk (by kernel_rfl)) ?_
  obtain rfl := Option.some.inj h0
  exact rt_ (ret_ rfl rfl rfl rfl rfl ⟨⟨rfl, mlen (fun _ => rfl)⟩, trivial⟩)
 ·rintro ⟨p6, p7, p8⟩ o1 _ K1 rfl h1 hx1 hK1 hE1 hR1
  refine seq_ ?_
  refine seq_ ?_
  refine reg_ ?_
  refine st (mv_ rfl trivial ?_)
  refine st (mv_ rfl trivial ?_)
  refine st (c_ (clenO (e := eI) (l0 := p6) rfl rfl trivial) ?_)
  refine st (c_ (cp_ t3 rfl trivial) ?_)
  refine oe_ ?_
  refine wk_ ⟨[(0, .own 2097152 0 1 (p6.map eI)), (1, iV p7), (5, iV p8), (9, .bool (decide (p8 < (p6.length : Int))))], [], []⟩ (fgk (by kernel_rfl)) ?_
  refine ite_ (cb := (decide (p8 < (p6.length : Int)))) rfl (fun c19 => ?_) (fun c19 => ?_)
  ·replace h1 := ip c19 h1
   refine sk_ ?_
   refine wk_ ⟨[(0, .own 2097152 0 1 (p6.map eI)), (1, iV p7), (5, iV p8)], [], []⟩ (fgk (by kernel_rfl)) ?_
   refine seq_ ?_
   refine block_ ?_
   refine seq_ ?_
   refine reg_ ?_
   refine st (mv_ rfl trivial ?_)
   refine st (mv_ rfl trivial ?_)
   refine st (mv_ rfl trivial ?_)
   obtain ⟨y20, e21, h1⟩ := bnd h1
   refine st (c_ (cidxO (e := eI) (y := y20) rfl rfl trivial rfl rfl trivial e21) ?_)
   obtain ⟨y22, e23, h1⟩ := bnd h1
   refine st (sto_ (y' := p7) rfl rfl trivial rfl rfl rfl rfl e23 (nl rfl) rfl rfl rfl rfl ?_)
   refine oe_ ?_
   refine wk_ ⟨[(0, .own 2097152 0 1 ((p6.set p8.toNat p7).map eI)), (1, iV p7), (5, iV p8)], [], []⟩ (fg ⟨(congrArg (fun z => some ((.own 2097152 0 1 z : V))) overlay_map), rfl, rfl, trivial⟩ trivial) ?_
   refine reg_ ?_
   refine st (mv_ rfl trivial ?_)
   refine st (c_ (cp_ t3 rfl trivial) ?_)
   refine st (mv_ rfl trivial ?_)
   refine oe_ ?_
   refine bn_ ?_
   refine wk_ ⟨[(0, .own 2097152 0 1 ((p6.set p8.toNat p7).map eI)), (1, iV (IntKind.i64.wrap (p7 + 1))), (5, iV p8)], [], []⟩ (fgk (by kernel_rfl)) ?_
   refine reg_ ?_
   refine st (mv_ rfl trivial ?_)
   refine st (c_ (cp_ t3 rfl trivial) ?_)
   refine st (mv_ rfl trivial ?_)
   refine oe_ ?_
   obtain rfl := Option.some.inj h1
   exact hK1 _ rfl _ ⟨[(0, .own 2097152 0 1 ((p6.set p8.toNat p7).map eI)), (1, iV (IntKind.i64.wrap (p7 + 1))), (5, iV (IntKind.i64.wrap (p8 + 1)))], [], []⟩ (fgk (by kernel_rfl)) rfl
  ·replace h1 := inb c19 h1
   obtain rfl := Option.some.inj h1
   obtain rfl := hx1 _ rfl
   refine exQ rfl ?_
   exact hE1 _ ⟨[(0, .own 2097152 0 1 (p6.map eI)), (1, iV p7)], [], []⟩ (fgk (by kernel_rfl)) ⟨_, _, rfl, rfl⟩

/- loop.example/g00149/laws.heldIntS -/
def c38_r0 : List Ins := [⟨some 4, .p (.mv (.c (iV 0))), none⟩]
def c38_r1 : List Ins := [⟨some 5, .p (.mv (.c (iV 0))), none⟩]
def c38_r2 : List Ins := [⟨some 6, .p (.mv (.t 5)), none⟩,
⟨some 7, .p (.mv (.t 0)), none⟩,
⟨some 8, .p (.len (.t 7)), none⟩,
⟨some 9, .p (.bin .lss (.t 6) (.t 8)), none⟩]
def c38_r3 : List Ins := [⟨some 12, .p (.mv (.t 0)), none⟩,
⟨some 13, .p (.mv (.t 5)), none⟩,
⟨some 14, .p (.idxA (.t 12) (.t 13) 1), none⟩,
⟨some 15, .p (.load (.t 14) 1 false), none⟩,
⟨some 16, .p (.mv (.t 1)), none⟩,
⟨some 17, .p (.bin .neq (.t 15) (.t 16)), none⟩]
def c38_r4 : List Ins := [⟨some 4, .p (.mv (.c (iV (-1)))), none⟩]
def c38_r5 : List Ins := [⟨some 18, .p (.mv (.t 1)), none⟩,
⟨some 19, .p (.bin .add (.t 18) (.c (iV 1))), none⟩,
⟨some 1, .p (.mv (.t 19)), none⟩]
def c38_r6 : List Ins := [⟨some 10, .p (.mv (.t 5)), none⟩,
⟨some 11, .p (.bin .add (.t 10) (.c (iV 1))), none⟩,
⟨some 5, .p (.mv (.t 11)), none⟩]
def c38_l0 : IR := (.seq (.seq (.reg c38_r2) (.ite (.t 9) .skip (.exit 0))) (.seq (.block 1 (.seq (.seq (.reg c38_r3) (.ite (.t 17) (.seq (.reg c38_r4) .ret) .skip)) (.reg c38_r5))) (.reg c38_r6)))
def c38_r7 : List Ins := [⟨some 20, .p (.mv (.t 1)), none⟩,
⟨some 4, .p (.mv (.t 20)), none⟩]
def c38 : XFn := { np := 2, nt := 21, res := [.t 4], body := (.seq (.reg c38_r0) (.seq (.seq (.reg c38_r1) (.block 0 (.loop c38_l0))) (.seq (.reg c38_r7) .ret))) }
def K38 (C : CRel) : Prop := ∀ (a0 : List Int) (a1 : Int) (r : Int), g38 a0 a1 = some r → C 38 ⟨[.lst 1 (a0.map eI), iV a1], []⟩ ⟨iV r, [], []⟩
theorem F38 {C : CRel}  (a0 : List Int) (a1 : Int) (r : Int) (h0 : g38 a0 a1 = some r) : FnOK C c38 ⟨[.lst 1 (a0.map eI), iV a1], []⟩ ⟨iV r, [], []⟩ := by
 refine fn_ (nl rfl) ?_
 refine seq_ ?_
 refine reg_ ?_
 refine st (mvc_ trivial ?_)
 refine oe_ ?_
 refine wk_ ⟨[(0, .lst 1 (a0.map eI)), (1, iV a1)], [], []⟩ (fgk (by kernel_rfl)) ?_
 refine seq_ ?_
 refine seq_ ?_
 refine reg_ ?_
 refine st (mvc_ trivial ?_)
 refine oe_ ?_
 refine wk_ ⟨[(0, .lst 1 (a0.map eI)), (1, iV a1), (5, iV 0)], [], []⟩ (fgk (by kernel_rfl)) ?_
 refine block_ ?_
 obtain ⟨r18, e19, h0⟩ := bnd h0
 refine loop_ (R := (fun S => ∃ p13 : Int, .inl p13 = r18 ∧ S = ⟨[(1, iV p13)], [], []⟩)) (g38_l0 a0) (fun s S => match s with | (p5, p6) => S = ⟨[(0, .lst 1 (a0.map eI)), (1, iV p5), (5, iV p6)], [], []⟩) e19 ⟨[(0, .lst 1 (a0.map eI)), (1, iV a1), (5, iV 0)], [], []⟩ (fgk (by kernel_rfl)) rfl 0 (fun _ => rfl) ?_ ?_
 ·rintro S _ hfg ⟨p13, rfl, rfl⟩
  refine wk_ ⟨[(1, iV p13)], [], []⟩ (fglk hfg (by kernel_rfl)) ?_
  refine seq_ ?_
  refine reg_ ?_
  refine st (mv_ rfl trivial ?_)
  refine st (mv_ rfl trivial ?_)
  refine oe_ ?_
  refine wk_ ⟨[(4, iV p13)], [], []⟩ (fgk (by kernel_rfl)) ?_
  obtain rfl := Option.some.inj h0
  exact rt_ (ret_ rfl rfl rfl rfl rfl trivial)
 ·rintro ⟨p5, p6⟩ o1 _ K1 rfl h1 hx1 hK1 hE1 hR1
  refine seq_ ?_
  refine seq_ ?_
  refine reg_ ?_
  refine st (mv_ rfl trivial ?_)
  refine st (mv_ rfl trivial ?_)
  refine st (c_ (clenL (e := eI) (l0 := a0) rfl rfl trivial) ?_)
  refine st (c_ (cp_ t3 rfl trivial) ?_)
  refine oe_ ?_
  refine wk_ ⟨[(0, .lst 1 (a0.map eI)), (1, iV p5), (5, iV p6), (9, .bool (decide (p6 < (a0.length : Int))))], [], []⟩ (fgk (by kernel_rfl)) ?_
  refine ite_ (cb := (decide (p6 < (a0.length : Int)))) rfl (fun c14 => ?_) (fun c14 => ?_)
  ·replace h1 := ip c14 h1
   refine sk_ ?_
   refine wk_ ⟨[(0, .lst 1 (a0.map eI)), (1, iV p5), (5, iV p6)], [], []⟩ (fgk (by kernel_rfl)) ?_
   refine seq_ ?_
   refine block_ ?_
   refine seq_ ?_
   refine seq_ ?_
   refine reg_ ?_
   refine st (mv_ rfl trivial ?_)
   refine st (mv_ rfl trivial ?_)
   obtain ⟨y15, e16, h1⟩ := bnd h1
   refine st (c_ (cidxL (e := eI) (y := y15) rfl rfl trivial rfl rfl trivial e16) ?_)
   refine st (c_ (cp_ ⟨trivial, trivial⟩ rfl (nl rfl)) ?_)
   refine st (mv_ rfl trivial ?_)
   refine st (c_ (cp_ t3 rfl trivial) ?_)
   refine oe_ ?_
   refine wk_ ⟨[(0, .lst 1 (a0.map eI)), (1, iV p5), (5, iV p6), (17, .bool (y15 != p5))], [], []⟩ (fgk (by kernel_rfl)) ?_
   refine ite_ (cb := (y15 != p5)) rfl (fun c17 => ?_) (fun c17 => ?_)
   ·replace h1 := ip c17 h1
    refine seq_ ?_
    refine reg_ ?_
    refine st (mvc_ trivial ?_)
    refine oe_ ?_
    refine wk_ ⟨[(4, iV (-1))], [], []⟩ (fgk (by kernel_rfl)) ?_
    obtain rfl := Option.some.inj h1
    obtain rfl := hx1 _ rfl
    obtain rfl := Option.some.inj h0
    exact rt_ (hR1 _ (ret_ rfl rfl rfl rfl rfl trivial))
   ·replace h1 := inb c17 h1
    refine sk_ ?_
    refine wk_ ⟨[(0, .lst 1 (a0.map eI)), (1, iV p5), (5, iV p6)], [], []⟩ (fgk (by kernel_rfl)) ?_
    refine reg_ ?_
    refine st (mv_ rfl trivial ?_)
    refine st (c_ (cp_ t3 rfl trivial) ?_)
    refine st (mv_ rfl trivial ?_)
    refine oe_ ?_
    refine bn_ ?_
    refine wk_ ⟨[(0, .lst 1 (a0.map eI)), (1, iV (IntKind.i64.wrap (p5 + 1))), (5, iV p6)], [], []⟩ (fgk (by kernel_rfl)) ?_
    refine reg_ ?_
    refine st (mv_ rfl trivial ?_)
    refine st (c_ (cp_ t3 rfl trivial) ?_)
    refine st (mv_ rfl trivial ?_)
    refine oe_ ?_
    obtain rfl := Option.some.inj h1
    exact hK1 _ rfl _ ⟨[(0, .lst 1 (a0.map eI)), (1, iV (IntKind.i64.wrap (p5 + 1))), (5, iV (IntKind.i64.wrap (p6 + 1)))], [], []⟩ (fgk (by kernel_rfl)) rfl
  ·replace h1 := inb c14 h1
   obtain rfl := Option.some.inj h1
   obtain rfl := hx1 _ rfl
   refine exQ rfl ?_
   exact hE1 _ ⟨[(1, iV p5)], [], []⟩ (fgk (by kernel_rfl)) ⟨_, rfl, rfl⟩

/- loop.example/g00149/laws.FnExactTick -/
def c10_r0 : List Ins := [⟨some 2, .box (.t 0), none⟩,
⟨some 4, .p (.mv (.c (.bool false))), none⟩]
def c10_r1 : List Ins := [⟨some 5, .p (.mv (.c (iV 1048576))), none⟩]
def c10_r2 : List Ins := [⟨some 19, .p (.load (.t 2) 3 true), none⟩,
⟨some 20, .p (.mv (.t 5)), none⟩,
⟨some 21, .call 17 [(.t 19), (.t 20)], none⟩,
⟨some 5, .p (.mv (.t 21)), none⟩]
def c10_r3 : List Ins := [⟨some 22, .p (.mv (.t 5)), none⟩,
⟨some 23, .p (.bin .lss (.t 22) (.c (iV 0))), none⟩]
def c10_r4 : List Ins := [⟨some 4, .p (.mv (.c (.bool true))), none⟩]
def c10_r5 : List Ins := [⟨some 25, .p (.load (.t 2) 3 true), none⟩,
⟨some 26, .call 19 [(.t 25)], none⟩,
⟨some 27, .p (.mv (.t 1)), none⟩,
⟨some 28, .call 34 [(.t 26), (.t 27)], none⟩,
⟨some 24, .p (.mv (.t 28)), none⟩,
⟨some 29, .p (.ext (.t 24) 0), none⟩,
⟨some 30, .p (.ext (.t 24) 1), none⟩,
⟨some 31, .p (.ext (.t 24) 2), none⟩,
⟨some 6, .alloc [(iV 0), (iV 0), (.own 387 0 4 [])], none⟩,
⟨none, .store (.t 6) (.t 29) 3, none⟩,
⟨some 7, .p (.mv (.t 30)), none⟩,
⟨some 8, .p (.mv (.t 31)), none⟩]
def c10_r6 : List Ins := [⟨some 32, .p (.load (.t 2) 3 true), none⟩,
⟨some 33, .call 19 [(.t 32)], none⟩,
⟨some 9, .alloc [(iV 0), (iV 0), (.own 579 0 4 [])], none⟩,
⟨none, .store (.t 9) (.t 33) 3, none⟩]
def c10_r7 : List Ins := [⟨some 35, .p (.load (.t 9) 3 true), none⟩,
⟨some 36, .p (.mv (.t 1)), none⟩,
⟨some 37, .call 35 [(.t 35), (.t 36)], none⟩,
⟨some 34, .p (.mv (.t 37)), none⟩,
⟨some 38, .p (.ext (.t 34) 0), none⟩,
⟨some 39, .p (.ext (.t 34) 1), none⟩,
⟨some 40, .p (.ext (.t 34) 2), none⟩,
⟨some 10, .alloc [(iV 0), (iV 0), (.own 643 0 4 [])], none⟩,
⟨none, .store (.t 10) (.t 38) 3, none⟩,
⟨some 11, .p (.mv (.t 39)), none⟩,
⟨some 12, .p (.mv (.t 40)), none⟩]
def c10_r8 : List Ins := [⟨some 41, .p (.load (.t 10) 3 true), none⟩,
⟨some 42, .p (.load (.t 6) 3 true), none⟩,
⟨some 43, .call 21 [(.t 41), (.t 42)], none⟩,
⟨some 44, .p (.un .not (.t 43)), none⟩,
⟨some 45, .p (.mv (.t 44)), none⟩,
⟨some 46, .p (.mv (.t 11)), some (45, false)⟩,
⟨some 47, .p (.mv (.t 7)), some (45, false)⟩,
⟨some 48, .call 36 [(.t 46), (.t 47)], some (45, false)⟩,
⟨some 49, .p (.un .not (.t 48)), some (45, false)⟩,
⟨some 50, .pick (.t 45) (.c (.bool true)) (.t 49), none⟩,
⟨some 51, .p (.mv (.t 50)), none⟩,
⟨some 52, .p (.mv (.t 12)), some (51, false)⟩,
⟨some 53, .p (.mv (.t 8)), some (51, false)⟩,
⟨some 54, .p (.bin .neq (.t 52) (.t 53)), some (51, false)⟩,
⟨some 55, .pick (.t 51) (.c (.bool true)) (.t 54), none⟩]
def c10_r9 : List Ins := [⟨some 4, .p (.mv (.c (.bool false))), none⟩]
def c10_r10 : DP := (.take ⟨some 56, .p (.load (.t 9) 3 true), none⟩
(.take ⟨some 57, .p (.load (.t 2) 3 true), none⟩
(.alt [⟨some 56, .p (.load (.t 9) 3 true), none⟩] ⟨some 58, .call 19 [(.t 57)], none⟩
(.alt [] ⟨some 59, .call 21 [(.t 56), (.t 58)], none⟩
(.take ⟨some 60, .p (.un .not (.t 59)), none⟩
.fin)
.stop)
.stop)))
def c10_r11 : List Ins := [⟨some 4, .p (.mv (.c (.bool false))), none⟩]
def c10_r12 : List Ins := [⟨some 13, .p (.mv (.c (iV 1))), none⟩]
def c10_r13 : List Ins := [⟨some 61, .p (.load (.t 9) 3 true), none⟩,
⟨some 62, .p (.mv (.t 13)), none⟩,
⟨some 63, .call 26 [(.t 61), (.t 62)], none⟩,
⟨some 13, .p (.mv (.t 63)), none⟩]
def c10_r14 : List Ins := [⟨some 64, .p (.mv (.t 13)), none⟩,
⟨some 65, .p (.bin .lss (.t 64) (.c (iV 0))), none⟩,
⟨some 66, .p (.mv (.t 65)), none⟩,
⟨some 67, .p (.load (.t 10) 3 true), some (66, false)⟩,
⟨some 68, .p (.load (.t 6) 3 true), some (66, false)⟩,
⟨some 69, .call 21 [(.t 67), (.t 68)], some (66, false)⟩,
⟨some 70, .p (.un .not (.t 69)), some (66, false)⟩,
⟨some 71, .pick (.t 66) (.c (.bool true)) (.t 70), none⟩,
⟨some 72, .p (.mv (.t 71)), none⟩,
⟨some 73, .p (.mv (.t 11)), some (72, false)⟩,
⟨some 74, .p (.mv (.t 7)), some (72, false)⟩,
⟨some 75, .call 36 [(.t 73), (.t 74)], some (72, false)⟩,
⟨some 76, .p (.un .not (.t 75)), some (72, false)⟩,
⟨some 77, .pick (.t 72) (.c (.bool true)) (.t 76), none⟩,
⟨some 78, .p (.mv (.t 77)), none⟩,
⟨some 79, .p (.mv (.t 12)), some (78, false)⟩,
⟨some 80, .p (.mv (.t 8)), some (78, false)⟩,
⟨some 81, .p (.bin .neq (.t 79) (.t 80)), some (78, false)⟩,
⟨some 82, .pick (.t 78) (.c (.bool true)) (.t 81), none⟩]
def c10_r15 : List Ins := [⟨some 4, .p (.mv (.c (.bool false))), none⟩]
def c10_r16 : List Ins := [⟨some 14, .p (.mv (.c (iV 1))), none⟩]
def c10_r17 : List Ins := [⟨some 83, .p (.load (.t 10) 3 true), none⟩,
⟨some 84, .p (.mv (.t 14)), none⟩,
⟨some 85, .call 26 [(.t 83), (.t 84)], none⟩,
⟨some 14, .p (.mv (.t 85)), none⟩]
def c10_r18 : List Ins := [⟨some 86, .p (.mv (.t 11)), none⟩,
⟨some 87, .p (.mv (.t 14)), none⟩,
⟨some 88, .call 37 [(.t 86), (.t 87)], none⟩,
⟨some 14, .p (.mv (.t 88)), none⟩]
def c10_r19 : List Ins := [⟨some 15, .p (.mv (.c (iV 1))), none⟩]
def c10_r20 : List Ins := [⟨some 89, .p (.load (.t 10) 3 true), none⟩,
⟨some 90, .p (.mv (.t 15)), none⟩,
⟨some 91, .call 27 [(.t 89), (.t 90)], none⟩,
⟨some 15, .p (.mv (.t 91)), none⟩]
def c10_r21 : List Ins := [⟨some 92, .p (.mv (.t 15)), none⟩,
⟨some 93, .p (.bin .lss (.t 92) (.c (iV 0))), none⟩]
def c10_r22 : List Ins := [⟨some 4, .p (.mv (.c (.bool false))), none⟩]
def c10_r23 : List Ins := [⟨some 94, .p (.mv (.t 11)), none⟩,
⟨some 95, .p (.mv (.t 15)), none⟩,
⟨some 96, .call 38 [(.t 94), (.t 95)], none⟩,
⟨some 15, .p (.mv (.t 96)), none⟩]
def c10_r24 : List Ins := [⟨some 97, .p (.mv (.t 15)), none⟩,
⟨some 98, .p (.bin .lss (.t 97) (.c (iV 0))), none⟩]
def c10_r25 : List Ins := [⟨some 4, .p (.mv (.c (.bool false))), none⟩]
def c10_r26 : List Ins := [⟨some 99, .p (.mv (.t 15)), none⟩,
⟨some 100, .p (.mv (.t 14)), none⟩,
⟨some 101, .p (.bin .neq (.t 99) (.t 100)), none⟩]
def c10_r27 : List Ins := [⟨some 4, .p (.mv (.c (.bool false))), none⟩]
def c10_r28 : List Ins := [⟨some 103, .p (.load (.t 2) 3 true), none⟩,
⟨some 104, .call 19 [(.t 103)], none⟩,
⟨some 105, .p (.mv (.t 1)), none⟩,
⟨some 106, .call 35 [(.t 104), (.t 105)], none⟩,
⟨some 102, .p (.mv (.t 106)), none⟩,
⟨some 107, .p (.ext (.t 102) 0), none⟩,
⟨some 108, .p (.ext (.t 102) 1), none⟩,
⟨some 109, .p (.ext (.t 102) 2), none⟩,
⟨some 16, .alloc [(iV 0), (iV 0), (.own 1027 0 4 [])], none⟩,
⟨none, .store (.t 16) (.t 107) 3, none⟩,
⟨some 17, .p (.mv (.t 108)), none⟩,
⟨some 18, .p (.mv (.t 109)), none⟩]
def c10_r29 : List Ins := [⟨some 110, .p (.load (.t 16) 3 true), none⟩,
⟨some 111, .p (.load (.t 6) 3 true), none⟩,
⟨some 112, .call 21 [(.t 110), (.t 111)], none⟩,
⟨some 113, .p (.un .not (.t 112)), none⟩,
⟨some 114, .p (.mv (.t 113)), none⟩,
⟨some 115, .p (.mv (.t 17)), some (114, false)⟩,
⟨some 116, .p (.mv (.t 7)), some (114, false)⟩,
⟨some 117, .call 36 [(.t 115), (.t 116)], some (114, false)⟩,
⟨some 118, .p (.un .not (.t 117)), some (114, false)⟩,
⟨some 119, .pick (.t 114) (.c (.bool true)) (.t 118), none⟩,
⟨some 120, .p (.mv (.t 119)), none⟩,
⟨some 121, .p (.mv (.t 18)), some (120, false)⟩,
⟨some 122, .p (.mv (.t 8)), some (120, false)⟩,
⟨some 123, .p (.bin .neq (.t 121) (.t 122)), some (120, false)⟩,
⟨some 124, .pick (.t 120) (.c (.bool true)) (.t 123), none⟩]
def c10_r30 : List Ins := [⟨some 4, .p (.mv (.c (.bool false))), none⟩]
def c10_r31 : List Ins := [⟨some 15, .p (.mv (.c (iV 1))), none⟩]
def c10_r32 : List Ins := [⟨some 125, .p (.load (.t 10) 3 true), none⟩,
⟨some 126, .p (.mv (.t 15)), none⟩,
⟨some 127, .call 27 [(.t 125), (.t 126)], none⟩,
⟨some 15, .p (.mv (.t 127)), none⟩]
def c10_r33 : List Ins := [⟨some 128, .p (.mv (.t 15)), none⟩,
⟨some 129, .p (.bin .lss (.t 128) (.c (iV 0))), none⟩]
def c10_r34 : List Ins := [⟨some 4, .p (.mv (.c (.bool false))), none⟩]
def c10_r35 : List Ins := [⟨some 130, .p (.mv (.t 11)), none⟩,
⟨some 131, .p (.mv (.t 15)), none⟩,
⟨some 132, .call 38 [(.t 130), (.t 131)], none⟩,
⟨some 15, .p (.mv (.t 132)), none⟩]
def c10_r36 : List Ins := [⟨some 133, .p (.mv (.t 15)), none⟩,
⟨some 134, .p (.bin .lss (.t 133) (.c (iV 0))), none⟩]
def c10_r37 : List Ins := [⟨some 4, .p (.mv (.c (.bool false))), none⟩]
def c10_r38 : List Ins := [⟨some 135, .p (.mv (.t 15)), none⟩,
⟨some 136, .p (.mv (.t 14)), none⟩,
⟨some 137, .p (.bin .neq (.t 135) (.t 136)), none⟩]
def c10_r39 : List Ins := [⟨some 4, .p (.mv (.c (.bool false))), none⟩]
def c10_r40 : List Ins := [⟨some 4, .p (.mv (.c (.bool true))), none⟩]
def c10 : XFn := { np := 2, nt := 138, res := [.t 4], body := (.seq (.reg c10_r0) (.seq (.reg c10_r1) (.seq (.reg c10_r2) (.seq (.seq (.reg c10_r3) (.ite (.t 23) (.seq (.reg c10_r4) .ret) .skip)) (.seq (.reg c10_r5) (.seq (.reg c10_r6) (.seq (.reg c10_r7) (.seq (.seq (.reg c10_r8) (.ite (.t 55) (.seq (.reg c10_r9) .ret) .skip)) (.seq (.seq (.draw c10_r10) (.ite (.t 60) (.seq (.reg c10_r11) .ret) .skip)) (.seq (.reg c10_r12) (.seq (.reg c10_r13) (.seq (.seq (.reg c10_r14) (.ite (.t 82) (.seq (.reg c10_r15) .ret) .skip)) (.seq (.reg c10_r16) (.seq (.reg c10_r17) (.seq (.reg c10_r18) (.seq (.reg c10_r19) (.seq (.reg c10_r20) (.seq (.seq (.reg c10_r21) (.ite (.t 93) (.seq (.reg c10_r22) .ret) .skip)) (.seq (.reg c10_r23) (.seq (.seq (.reg c10_r24) (.ite (.t 98) (.seq (.reg c10_r25) .ret) .skip)) (.seq (.seq (.reg c10_r26) (.ite (.t 101) (.seq (.reg c10_r27) .ret) .skip)) (.seq (.reg c10_r28) (.seq (.seq (.reg c10_r29) (.ite (.t 124) (.seq (.reg c10_r30) .ret) .skip)) (.seq (.reg c10_r31) (.seq (.reg c10_r32) (.seq (.seq (.reg c10_r33) (.ite (.t 129) (.seq (.reg c10_r34) .ret) .skip)) (.seq (.reg c10_r35) (.seq (.seq (.reg c10_r36) (.ite (.t 134) (.seq (.reg c10_r37) .ret) .skip)) (.seq (.seq (.reg c10_r38) (.ite (.t 137) (.seq (.reg c10_r39) .ret) .skip)) (.seq (.reg c10_r40) .ret)))))))))))))))))))))))))))))) }
def K10 (C : CRel) : Prop := ∀ (a0 : DTable) (a1 : Int) (r : Bool), g10 a0 a1 = some r → C 10 ⟨[.agg (eDTable a0), iV a1], []⟩ ⟨.bool r, [], []⟩
theorem F10 {C : CRel} (H17 : K17 C) (H19 : K19 C) (H21 : K21 C) (H26 : K26 C) (H27 : K27 C) (H34 : K34 C) (H35 : K35 C) (H36 : K36 C) (H37 : K37 C) (H38 : K38 C) (a0 : DTable) (a1 : Int) (r : Bool) (h0 : g10 a0 a1 = some r) : FnOK C c10 ⟨[.agg (eDTable a0), iV a1], []⟩ ⟨.bool r, [], []⟩ := by
 refine fn_ (nl rfl) ?_
 refine seq_ ?_
 refine reg_ ?_
 refine st (box_ rfl trivial rfl ?_)
 refine st (mvc_ trivial ?_)
 refine oe_ ?_
 refine wk_ ⟨[(1, iV a1), (2, .ptr 128 0)], [(128, [iV a0.clock, iV a0.next, .lst 4 (a0.list_.map eDLease)])], []⟩ (fgk (by kernel_rfl)) ?_
 refine seq_ ?_
 refine reg_ ?_
 refine st (mvc_ trivial ?_)
 refine oe_ ?_
 refine wk_ ⟨[(1, iV a1), (2, .ptr 128 0), (5, iV 1048576)], [(128, [iV a0.clock, iV a0.next, .lst 4 (a0.list_.map eDLease)])], []⟩ (fgk (by kernel_rfl)) ?_
 refine seq_ ?_
 refine reg_ ?_
 refine st (c_ (v := .agg (eDTable a0)) (cp_ ⟨trivial, trivial⟩ rfl (nl rfl)) ?_)
 refine st (mv_ rfl trivial ?_)
 obtain ⟨r1, e2, h0⟩ := bnd h0
 refine st (call0_ (r := iV r1) false (H17 a0 1048576 r1 e2) ⟨trivial, trivial, trivial⟩ rfl rfl (fun _ => rfl) ?_)
 refine st (mv_ rfl trivial ?_)
 refine oe_ ?_
 refine wk_ ⟨[(1, iV a1), (2, .ptr 128 0), (5, iV r1)], [(128, [iV a0.clock, iV a0.next, .lst 4 (a0.list_.map eDLease)])], []⟩ (fgk (by kernel_rfl)) ?_
 refine seq_ ?_
 refine seq_ ?_
 refine reg_ ?_
 refine st (mv_ rfl trivial ?_)
 refine st (c_ (cp_ t3 rfl trivial) ?_)
 refine oe_ ?_
 refine wk_ ⟨[(1, iV a1), (2, .ptr 128 0), (23, .bool (decide (r1 < 0)))], [(128, [iV a0.clock, iV a0.next, .lst 4 (a0.list_.map eDLease)])], []⟩ (fgk (by kernel_rfl)) ?_
 refine ite_ (cb := (decide (r1 < 0))) rfl (fun c3 => ?_) (fun c3 => ?_)
 ·replace h0 := ip c3 h0
  refine seq_ ?_
  refine reg_ ?_
  refine st (mvc_ trivial ?_)
  refine oe_ ?_
  refine wk_ ⟨[(4, .bool true)], [], []⟩ (fgk (by kernel_rfl)) ?_
  obtain rfl := Option.some.inj h0
  exact rt_ (ret_ rfl rfl rfl rfl rfl trivial)
 ·replace h0 := inb c3 h0
  refine sk_ ?_
  refine wk_ ⟨[(1, iV a1), (2, .ptr 128 0)], [(128, [iV a0.clock, iV a0.next, .lst 4 (a0.list_.map eDLease)])], []⟩ (fgk (by kernel_rfl)) ?_
  refine seq_ ?_
  refine reg_ ?_
  refine st (c_ (v := .agg (eDTable a0)) (cp_ ⟨trivial, trivial⟩ rfl (nl rfl)) ?_)
  obtain ⟨r4, e5, h0⟩ := bnd h0
  refine st (call0_ (r := .agg [iV r4.clock, iV r4.next, .own 0 0 4 (r4.list_.map eDLease)]) false (H19 a0 r4 e5) ⟨trivial, trivial⟩ rfl rfl (fun _ => (and_ rfl (and_ rfl (and_ (fl1 (fun _ => rfl)) rfl)))) ?_)
  refine st (mv_ rfl trivial ?_)
  obtain ⟨r6, e7, h0⟩ := bnd h0
  refine st (call0_ (r := .tup [.agg [iV r6.1.clock, iV r6.1.next, .own 0 0 4 (r6.1.list_.map eDLease)], .own 1 0 1 (r6.2.1.map eI), iV r6.2.2]) false (H34 r4 a1 r6 e7) ⟨trivial, trivial, trivial⟩ rfl rfl (fun _ => (and_ rfl (and_ rfl (and_ (fl1 (fun _ => rfl)) (and_ (fl1 (fun _ => rfl)) (and_ rfl rfl)))))) ?_)
  refine st (mv_ rfl trivial ?_)
  refine st (c_ (cp_ ⟨trivial, trivial⟩ rfl trivial) ?_)
  refine st (c_ (cp_ ⟨trivial, trivial⟩ rfl trivial) ?_)
  refine st (c_ (cp_ ⟨trivial, trivial⟩ rfl trivial) ?_)
  refine st (alloc_ ?_)
  refine sw ⟨[(1, iV a1), (2, .ptr 128 0), (6, .ptr 384 0), (29, .agg [iV r6.1.clock, iV r6.1.next, .own 1792 0 4 (r6.1.list_.map eDLease)]), (30, .own 1793 0 1 (r6.2.1.map eI)), (31, iV r6.2.2)], [(128, [iV a0.clock, iV a0.next, .lst 4 (a0.list_.map eDLease)]), (384, [iV 0, iV 0, .own 387 0 4 (([] : List DLease).map eDLease)])], []⟩ (fgk (by kernel_rfl)) (stp_ rfl rfl trivial rfl rfl rfl (nl rfl) ?_)
  refine st (mv_ rfl trivial ?_)
  refine st (mv_ rfl trivial ?_)
  refine oe_ ?_
  refine wk_ ⟨[(1, iV a1), (2, .ptr 128 0), (6, .ptr 384 0), (7, .own 1793 0 1 (r6.2.1.map eI)), (8, iV r6.2.2)], [(128, [iV a0.clock, iV a0.next, .lst 4 (a0.list_.map eDLease)]), (384, [iV r6.1.clock, iV r6.1.next, .own 1792 0 4 (r6.1.list_.map eDLease)])], []⟩ (fgk (by kernel_rfl)) ?_
  refine seq_ ?_
  refine reg_ ?_
  refine st (c_ (v := .agg (eDTable a0)) (cp_ ⟨trivial, trivial⟩ rfl (nl rfl)) ?_)
  obtain ⟨r8, e9, h0⟩ := bnd h0
  refine st (call0_ (r := .agg [iV r8.clock, iV r8.next, .own 0 0 4 (r8.list_.map eDLease)]) false (H19 a0 r8 e9) ⟨trivial, trivial⟩ rfl rfl (fun _ => (and_ rfl (and_ rfl (and_ (fl1 (fun _ => rfl)) rfl)))) ?_)
  refine st (alloc_ ?_)
  refine st (stp_ rfl rfl trivial rfl rfl rfl (nl rfl) ?_)
  refine oe_ ?_
  refine wk_ ⟨[(1, iV a1), (2, .ptr 128 0), (6, .ptr 384 0), (7, .own 1793 0 1 (r6.2.1.map eI)), (8, iV r6.2.2), (9, .ptr 576 0)], [(128, [iV a0.clock, iV a0.next, .lst 4 (a0.list_.map eDLease)]), (384, [iV r6.1.clock, iV r6.1.next, .own 1792 0 4 (r6.1.list_.map eDLease)]), (576, [iV r8.clock, iV r8.next, .own 2112 0 4 (r8.list_.map eDLease)])], []⟩ (fgk (by kernel_rfl)) ?_
  refine seq_ ?_
  refine reg_ ?_
  refine st (c_ (v := .agg [iV r8.clock, iV r8.next, .own 2112 0 4 (r8.list_.map eDLease)]) (cp_ ⟨trivial, trivial⟩ rfl (nl rfl)) ?_)
  refine st (mv_ rfl trivial ?_)
  obtain ⟨r10, e11, h0⟩ := bnd h0
  refine st (call0_ (r := .tup [.agg [iV r10.1.clock, iV r10.1.next, .own 0 0 4 (r10.1.list_.map eDLease)], .own 1 0 1 (r10.2.1.map eI), iV r10.2.2]) false (H35 r8 a1 r10 e11) ⟨trivial, trivial, trivial⟩ rfl rfl (fun _ => (and_ rfl (and_ rfl (and_ (fl1 (fun _ => rfl)) (and_ (fl1 (fun _ => rfl)) (and_ rfl rfl)))))) ?_)
  refine st (mv_ rfl trivial ?_)
  refine st (c_ (cp_ ⟨trivial, trivial⟩ rfl trivial) ?_)
  refine st (c_ (cp_ ⟨trivial, trivial⟩ rfl trivial) ?_)
  refine st (c_ (cp_ ⟨trivial, trivial⟩ rfl trivial) ?_)
  refine st (alloc_ ?_)
  refine st (stp_ rfl rfl trivial rfl rfl rfl (nl rfl) ?_)
  refine sw ⟨[(1, iV a1), (2, .ptr 128 0), (6, .ptr 384 0), (7, .own 1793 0 1 (r6.2.1.map eI)), (8, iV r6.2.2), (9, .ptr 576 0), (10, .ptr 640 0), (39, .own 2369 0 1 (r10.2.1.map eI)), (40, iV r10.2.2)], [(128, [iV a0.clock, iV a0.next, .lst 4 (a0.list_.map eDLease)]), (384, [iV r6.1.clock, iV r6.1.next, .own 1792 0 4 (r6.1.list_.map eDLease)]), (576, [iV r8.clock, iV r8.next, .own 2112 0 4 (r8.list_.map eDLease)]), (640, [iV r10.1.clock, iV r10.1.next, .own 2368 0 4 (r10.1.list_.map eDLease)])], []⟩ (fgk (by kernel_rfl)) (mv_ rfl trivial ?_)
  refine st (mv_ rfl trivial ?_)
  refine oe_ ?_
  refine wk_ ⟨[(1, iV a1), (2, .ptr 128 0), (6, .ptr 384 0), (7, .own 1793 0 1 (r6.2.1.map eI)), (8, iV r6.2.2), (9, .ptr 576 0), (10, .ptr 640 0), (11, .own 2369 0 1 (r10.2.1.map eI)), (12, iV r10.2.2)], [(128, [iV a0.clock, iV a0.next, .lst 4 (a0.list_.map eDLease)]), (384, [iV r6.1.clock, iV r6.1.next, .own 1792 0 4 (r6.1.list_.map eDLease)]), (576, [iV r8.clock, iV r8.next, .own 2112 0 4 (r8.list_.map eDLease)]), (640, [iV r10.1.clock, iV r10.1.next, .own 2368 0 4 (r10.1.list_.map eDLease)])], []⟩ (fgk (by kernel_rfl)) ?_
  refine seq_ ?_
  refine seq_ ?_
  refine reg_ ?_
  refine st (c_ (v := .agg [iV r10.1.clock, iV r10.1.next, .own 2368 0 4 (r10.1.list_.map eDLease)]) (cp_ ⟨trivial, trivial⟩ rfl (nl rfl)) ?_)
  refine st (c_ (v := .agg [iV r6.1.clock, iV r6.1.next, .own 1792 0 4 (r6.1.list_.map eDLease)]) (cp_ ⟨trivial, trivial⟩ rfl (nl rfl)) ?_)
  obtain ⟨r12, e13, h0⟩ := bnd h0
  refine st (call0_ (r := .bool r12) false (H21 r10.1 r6.1 r12 e13) ⟨trivial, trivial, trivial⟩ rfl rfl (fun _ => rfl) ?_)
  refine st (c_ (cp_ ⟨trivial, trivial⟩ rfl trivial) ?_)
  refine st (mv_ rfl trivial ?_)
  refine st (pg_ (u := .own 2369 0 1 (r10.2.1.map eI)) rfl (fun hg => (cmv (v := .own 2369 0 1 (r10.2.1.map eI)) rfl trivial)) ?_)
  refine st (pg_ (u := .own 1793 0 1 (r6.2.1.map eI)) rfl (fun hg => (cmv (v := .own 1793 0 1 (r6.2.1.map eI)) rfl trivial)) ?_)
  obtain ⟨r14, e15, h0⟩ := bnd h0
  refine sw ⟨[(1, iV a1), (2, .ptr 128 0), (6, .ptr 384 0), (7, .own 1793 0 1 (r6.2.1.map eI)), (8, iV r6.2.2), (9, .ptr 576 0), (10, .ptr 640 0), (11, .own 2369 0 1 (r10.2.1.map eI)), (12, iV r10.2.2), (45, .bool (!r12)), (46, .may ((!r12) == false) (.own 2369 0 1 (r10.2.1.map eI))), (47, .may ((!r12) == false) (.own 1793 0 1 (r6.2.1.map eI)))], [(128, [iV a0.clock, iV a0.next, .lst 4 (a0.list_.map eDLease)]), (384, [iV r6.1.clock, iV r6.1.next, .own 1792 0 4 (r6.1.list_.map eDLease)]), (576, [iV r8.clock, iV r8.next, .own 2112 0 4 (r8.list_.map eDLease)]), (640, [iV r10.1.clock, iV r10.1.next, .own 2368 0 4 (r10.1.list_.map eDLease)])], []⟩ (fgk (by kernel_rfl)) (callg_ (r := .bool r14) rfl false (fun hg => H36 r10.2.1 r6.2.1 r14 (ip hg e15)) ⟨(fun hg => hg), (fun hg => hg), trivial⟩ (fun _ => rfl) (fun _ => rfl) (fun _ => rfl) (fun h => nomatch h) ?_)
  refine st (pg_ (u := .bool (!r14)) rfl (fun hg => (cp_ ⟨(fun _ => hg), trivial⟩ rfl trivial)) ?_)
  refine st (pick_ rfl rfl rfl trivial (fun h => eqf h) rfl ?_)
  refine st (mv_ rfl trivial ?_)
  refine st (pg_ (u := iV r10.2.2) rfl (fun hg => (cmv (v := iV r10.2.2) rfl trivial)) ?_)
  refine st (pg_ (u := iV r6.2.2) rfl (fun hg => (cmv (v := iV r6.2.2) rfl trivial)) ?_)
  refine st (pg_ (u := .bool (r10.2.2 != r6.2.2)) rfl (fun hg => (cp_ ⟨(fun _ => hg), (fun _ => hg), trivial⟩ rfl trivial)) ?_)
  refine st (pick_ rfl rfl rfl trivial (fun h => eqf h) rfl ?_)
  refine oe_ ?_
  obtain ⟨v16, e17, h0⟩ := bl h0
  refine wk_ ⟨[(1, iV a1), (2, .ptr 128 0), (6, .ptr 384 0), (7, .own 1793 0 1 (r6.2.1.map eI)), (8, iV r6.2.2), (9, .ptr 576 0), (10, .ptr 640 0), (11, .own 2369 0 1 (r10.2.1.map eI)), (12, iV r10.2.2), (55, .bool v16)], [(128, [iV a0.clock, iV a0.next, .lst 4 (a0.list_.map eDLease)]), (384, [iV r6.1.clock, iV r6.1.next, .own 1792 0 4 (r6.1.list_.map eDLease)]), (576, [iV r8.clock, iV r8.next, .own 2112 0 4 (r8.list_.map eDLease)]), (640, [iV r10.1.clock, iV r10.1.next, .own 2368 0 4 (r10.1.list_.map eDLease)])], []⟩ (fgk (by subst e17; kernel_rfl)) ?_
  refine ite_ (cb := v16) rfl (fun c18 => ?_) (fun c18 => ?_)
  ·replace h0 := ip c18 h0
   refine seq_ ?_
   refine reg_ ?_
   refine st (mvc_ trivial ?_)
   refine oe_ ?_
   refine wk_ ⟨[(4, .bool false)], [], []⟩ (fgk (by kernel_rfl)) ?_
   obtain rfl := Option.some.inj h0
   exact rt_ (ret_ rfl rfl rfl rfl rfl trivial)
  ·replace h0 := inb c18 h0
   refine sk_ ?_
   refine wk_ ⟨[(1, iV a1), (2, .ptr 128 0), (6, .ptr 384 0), (7, .own 1793 0 1 (r6.2.1.map eI)), (8, iV r6.2.2), (9, .ptr 576 0), (10, .ptr 640 0), (11, .own 2369 0 1 (r10.2.1.map eI)), (12, iV r10.2.2)], [(128, [iV a0.clock, iV a0.next, .lst 4 (a0.list_.map eDLease)]), (384, [iV r6.1.clock, iV r6.1.next, .own 1792 0 4 (r6.1.list_.map eDLease)]), (576, [iV r8.clock, iV r8.next, .own 2112 0 4 (r8.list_.map eDLease)]), (640, [iV r10.1.clock, iV r10.1.next, .own 2368 0 4 (r10.1.list_.map eDLease)])], []⟩ (fgk (by kernel_rfl)) ?_
   refine seq_ ?_
   refine seq_ ?_
   obtain ⟨r19, e20, h0⟩ := bnd h0
   obtain ⟨r21, e22, h0⟩ := bnd h0
   refine draw_ ?_
   refine dtake trivial (c_ (v := .agg [iV r8.clock, iV r8.next, .own 2112 0 4 (r8.list_.map eDLease)]) (cp_ ⟨trivial, trivial⟩ rfl (nl rfl)) ?_)
   refine ⟨trivial, ?_⟩
   refine dtake trivial (c_ (v := .agg (eDTable a0)) (cp_ ⟨trivial, trivial⟩ rfl (nl rfl)) ?_)
   refine ⟨trivial, ?_⟩
   refine dalt (call0_ (r := .agg [iV r19.clock, iV r19.next, .own 0 0 4 (r19.list_.map eDLease)]) false (H19 a0 r19 e20) ⟨trivial, trivial⟩ rfl rfl (fun _ => (and_ rfl (and_ rfl (and_ (fl1 (fun _ => rfl)) rfl)))) ?_) dstop
   refine dkw ⟨[(1, iV a1), (2, .ptr 128 0), (6, .ptr 384 0), (7, .own 1793 0 1 (r6.2.1.map eI)), (8, iV r6.2.2), (9, .ptr 576 0), (10, .ptr 640 0), (11, .own 2369 0 1 (r10.2.1.map eI)), (12, iV r10.2.2), (56, .agg [iV r8.clock, iV r8.next, .own 2112 0 4 (r8.list_.map eDLease)]), (58, .agg [iV r19.clock, iV r19.next, .own 3712 0 4 (r19.list_.map eDLease)])], [(128, [iV a0.clock, iV a0.next, .lst 4 (a0.list_.map eDLease)]), (384, [iV r6.1.clock, iV r6.1.next, .own 1792 0 4 (r6.1.list_.map eDLease)]), (576, [iV r8.clock, iV r8.next, .own 2112 0 4 (r8.list_.map eDLease)]), (640, [iV r10.1.clock, iV r10.1.next, .own 2368 0 4 (r10.1.list_.map eDLease)])], []⟩ (fgk (by kernel_rfl)) ⟨[], ⟨⟨.inl trivial, (again1 (cp_ ⟨trivial, trivial⟩ rfl (nl rfl)) rfl)⟩, trivial⟩, trivial, ?_⟩
   refine dalt (call0_ (r := .bool r21) false (H21 r8 r19 r21 e22) ⟨trivial, trivial, trivial⟩ rfl rfl (fun _ => rfl) ?_) dstop
   refine dkw ⟨[(1, iV a1), (2, .ptr 128 0), (6, .ptr 384 0), (7, .own 1793 0 1 (r6.2.1.map eI)), (8, iV r6.2.2), (9, .ptr 576 0), (10, .ptr 640 0), (11, .own 2369 0 1 (r10.2.1.map eI)), (12, iV r10.2.2), (59, .bool r21)], [(128, [iV a0.clock, iV a0.next, .lst 4 (a0.list_.map eDLease)]), (384, [iV r6.1.clock, iV r6.1.next, .own 1792 0 4 (r6.1.list_.map eDLease)]), (576, [iV r8.clock, iV r8.next, .own 2112 0 4 (r8.list_.map eDLease)]), (640, [iV r10.1.clock, iV r10.1.next, .own 2368 0 4 (r10.1.list_.map eDLease)])], []⟩ (fgk (by kernel_rfl)) ⟨[], trivial, trivial, ?_⟩
   refine dtake trivial (c_ (cp_ ⟨trivial, trivial⟩ rfl trivial) ?_)
   refine ⟨trivial, ?_⟩
   refine dfin ?_
   refine wk_ ⟨[(1, iV a1), (2, .ptr 128 0), (6, .ptr 384 0), (7, .own 1793 0 1 (r6.2.1.map eI)), (8, iV r6.2.2), (9, .ptr 576 0), (10, .ptr 640 0), (11, .own 2369 0 1 (r10.2.1.map eI)), (12, iV r10.2.2), (60, .bool (!r21))], [(128, [iV a0.clock, iV a0.next, .lst 4 (a0.list_.map eDLease)]), (384, [iV r6.1.clock, iV r6.1.next, .own 1792 0 4 (r6.1.list_.map eDLease)]), (576, [iV r8.clock, iV r8.next, .own 2112 0 4 (r8.list_.map eDLease)]), (640, [iV r10.1.clock, iV r10.1.next, .own 2368 0 4 (r10.1.list_.map eDLease)])], []⟩ (fgk (by kernel_rfl)) ?_
   refine ite_ (cb := (!r21)) rfl (fun c23 => ?_) (fun c23 => ?_)
   ·replace h0 := ip c23 h0
    refine seq_ ?_
    refine reg_ ?_
    refine st (mvc_ trivial ?_)
    refine oe_ ?_
    refine wk_ ⟨[(4, .bool false)], [], []⟩ (fgk (by kernel_rfl)) ?_
    obtain rfl := Option.some.inj h0
    exact rt_ (ret_ rfl rfl rfl rfl rfl trivial)
   ·replace h0 := inb c23 h0
    refine sk_ ?_
    refine wk_ ⟨[(1, iV a1), (2, .ptr 128 0), (6, .ptr 384 0), (7, .own 1793 0 1 (r6.2.1.map eI)), (8, iV r6.2.2), (9, .ptr 576 0), (10, .ptr 640 0), (11, .own 2369 0 1 (r10.2.1.map eI)), (12, iV r10.2.2)], [(128, [iV a0.clock, iV a0.next, .lst 4 (a0.list_.map eDLease)]), (384, [iV r6.1.clock, iV r6.1.next, .own 1792 0 4 (r6.1.list_.map eDLease)]), (576, [iV r8.clock, iV r8.next, .own 2112 0 4 (r8.list_.map eDLease)]), (640, [iV r10.1.clock, iV r10.1.next, .own 2368 0 4 (r10.1.list_.map eDLease)])], []⟩ (fgk (by kernel_rfl)) ?_
    refine seq_ ?_
    refine reg_ ?_
    refine st (mvc_ trivial ?_)
    refine oe_ ?_
    refine wk_ ⟨[(1, iV a1), (2, .ptr 128 0), (6, .ptr 384 0), (7, .own 1793 0 1 (r6.2.1.map eI)), (8, iV r6.2.2), (9, .ptr 576 0), (10, .ptr 640 0), (11, .own 2369 0 1 (r10.2.1.map eI)), (12, iV r10.2.2), (13, iV 1)], [(128, [iV a0.clock, iV a0.next, .lst 4 (a0.list_.map eDLease)]), (384, [iV r6.1.clock, iV r6.1.next, .own 1792 0 4 (r6.1.list_.map eDLease)]), (576, [iV r8.clock, iV r8.next, .own 2112 0 4 (r8.list_.map eDLease)]), (640, [iV r10.1.clock, iV r10.1.next, .own 2368 0 4 (r10.1.list_.map eDLease)])], []⟩ (fgk (by kernel_rfl)) ?_
    refine seq_ ?_
    refine reg_ ?_
    refine st (c_ (v := .agg [iV r8.clock, iV r8.next, .own 2112 0 4 (r8.list_.map eDLease)]) (cp_ ⟨trivial, trivial⟩ rfl (nl rfl)) ?_)
    refine st (mv_ rfl trivial ?_)
    obtain ⟨r24, e25, h0⟩ := bnd h0
    obtain ⟨c26, h0⟩ := grd h0
    refine st (call1_ [] [2112] [] false (H26 r8 1 r24 e25) ⟨trivial, trivial, trivial⟩ (by kernel_rfl) (by kernel_rfl) (by kernel_rfl) (by kernel_rfl) (fun _ => and_ rfl (and_ (fl2 (fun _ => rfl)) rfl)) ?_)
    refine sw ⟨[(1, iV a1), (2, .ptr 128 0), (6, .ptr 384 0), (7, .own 1793 0 1 (r6.2.1.map eI)), (8, iV r6.2.2), (10, .ptr 640 0), (11, .own 2369 0 1 (r10.2.1.map eI)), (12, iV r10.2.2), (63, iV r24.1)], [(128, [iV a0.clock, iV a0.next, .lst 4 (a0.list_.map eDLease)]), (384, [iV r6.1.clock, iV r6.1.next, .own 1792 0 4 (r6.1.list_.map eDLease)]), (640, [iV r10.1.clock, iV r10.1.next, .own 2368 0 4 (r10.1.list_.map eDLease)])], []⟩ (fgk (by kernel_rfl)) (mv_ rfl trivial ?_)
    refine oe_ ?_
    refine wk_ ⟨[(1, iV a1), (2, .ptr 128 0), (6, .ptr 384 0), (7, .own 1793 0 1 (r6.2.1.map eI)), (8, iV r6.2.2), (10, .ptr 640 0), (11, .own 2369 0 1 (r10.2.1.map eI)), (12, iV r10.2.2), (13, iV r24.1)], [(128, [iV a0.clock, iV a0.next, .lst 4 (a0.list_.map eDLease)]), (384, [iV r6.1.clock, iV r6.1.next, .own 1792 0 4 (r6.1.list_.map eDLease)]), (640, [iV r10.1.clock, iV r10.1.next, .own 2368 0 4 (r10.1.list_.map eDLease)])], []⟩ (fgk (by kernel_rfl)) ?_
    refine seq_ ?_
    refine seq_ ?_
    refine reg_ ?_
    refine st (mv_ rfl trivial ?_)
    refine st (c_ (cp_ t3 rfl trivial) ?_)
    refine st (mv_ rfl trivial ?_)
    refine st (pg_ (u := .agg [iV r10.1.clock, iV r10.1.next, .own 2368 0 4 (r10.1.list_.map eDLease)]) rfl (fun hg => (cp_ ⟨trivial, trivial⟩ rfl (nl rfl))) ?_)
    refine st (pg_ (u := .agg [iV r6.1.clock, iV r6.1.next, .own 1792 0 4 (r6.1.list_.map eDLease)]) rfl (fun hg => (cp_ ⟨trivial, trivial⟩ rfl (nl rfl))) ?_)
    obtain ⟨r27, e28, h0⟩ := bnd h0
    refine st (callg_ (r := .bool r27) rfl false (fun hg => H21 r10.1 r6.1 r27 (ip hg e28)) ⟨(fun hg => hg), (fun hg => hg), trivial⟩ (fun _ => rfl) (fun _ => rfl) (fun _ => rfl) (fun h => nomatch h) ?_)
    refine st (pg_ (u := .bool (!r27)) rfl (fun hg => (cp_ ⟨(fun _ => hg), trivial⟩ rfl trivial)) ?_)
    refine st (pick_ rfl rfl rfl trivial (fun h => eqf h) rfl ?_)
    refine st (mv_ rfl trivial ?_)
    refine st (pg_ (u := .own 2369 0 1 (r10.2.1.map eI)) rfl (fun hg => (cmv (v := .own 2369 0 1 (r10.2.1.map eI)) rfl trivial)) ?_)
    refine st (pg_ (u := .own 1793 0 1 (r6.2.1.map eI)) rfl (fun hg => (cmv (v := .own 1793 0 1 (r6.2.1.map eI)) rfl trivial)) ?_)
    obtain ⟨r29, e30, h0⟩ := bnd h0
    refine sw ⟨[(1, iV a1), (2, .ptr 128 0), (6, .ptr 384 0), (7, .own 1793 0 1 (r6.2.1.map eI)), (8, iV r6.2.2), (10, .ptr 640 0), (11, .own 2369 0 1 (r10.2.1.map eI)), (12, iV r10.2.2), (72, .bool (bif (decide (r24.1 < 0)) then true else (!r27))), (73, .may ((bif (decide (r24.1 < 0)) then true else (!r27)) == false) (.own 2369 0 1 (r10.2.1.map eI))), (74, .may ((bif (decide (r24.1 < 0)) then true else (!r27)) == false) (.own 1793 0 1 (r6.2.1.map eI)))], [(128, [iV a0.clock, iV a0.next, .lst 4 (a0.list_.map eDLease)]), (384, [iV r6.1.clock, iV r6.1.next, .own 1792 0 4 (r6.1.list_.map eDLease)]), (640, [iV r10.1.clock, iV r10.1.next, .own 2368 0 4 (r10.1.list_.map eDLease)])], []⟩ (fgk (by kernel_rfl)) (callg_ (r := .bool r29) rfl false (fun hg => H36 r10.2.1 r6.2.1 r29 (ip hg e30)) ⟨(fun hg => hg), (fun hg => hg), trivial⟩ (fun _ => rfl) (fun _ => rfl) (fun _ => rfl) (fun h => nomatch h) ?_)
    refine st (pg_ (u := .bool (!r29)) rfl (fun hg => (cp_ ⟨(fun _ => hg), trivial⟩ rfl trivial)) ?_)
    refine st (pick_ rfl rfl rfl trivial (fun h => eqf h) rfl ?_)
    refine st (mv_ rfl trivial ?_)
    refine st (pg_ (u := iV r10.2.2) rfl (fun hg => (cmv (v := iV r10.2.2) rfl trivial)) ?_)
    refine st (pg_ (u := iV r6.2.2) rfl (fun hg => (cmv (v := iV r6.2.2) rfl trivial)) ?_)
    refine st (pg_ (u := .bool (r10.2.2 != r6.2.2)) rfl (fun hg => (cp_ ⟨(fun _ => hg), (fun _ => hg), trivial⟩ rfl trivial)) ?_)
    refine st (pick_ rfl rfl rfl trivial (fun h => eqf h) rfl ?_)
    refine oe_ ?_
    obtain ⟨v31, e32, h0⟩ := bl h0
    refine wk_ ⟨[(1, iV a1), (2, .ptr 128 0), (6, .ptr 384 0), (7, .own 1793 0 1 (r6.2.1.map eI)), (8, iV r6.2.2), (10, .ptr 640 0), (11, .own 2369 0 1 (r10.2.1.map eI)), (82, .bool v31)], [(128, [iV a0.clock, iV a0.next, .lst 4 (a0.list_.map eDLease)]), (384, [iV r6.1.clock, iV r6.1.next, .own 1792 0 4 (r6.1.list_.map eDLease)]), (640, [iV r10.1.clock, iV r10.1.next, .own 2368 0 4 (r10.1.list_.map eDLease)])], []⟩ (fgk (by subst e32; kernel_rfl)) ?_
    refine ite_ (cb := v31) rfl (fun c33 => ?_) (fun c33 => ?_)
    ·replace h0 := ip c33 h0
     refine seq_ ?_
     refine reg_ ?_
     refine st (mvc_ trivial ?_)
     refine oe_ ?_
     refine wk_ ⟨[(4, .bool false)], [], []⟩ (fgk (by kernel_rfl)) ?_
     obtain rfl := Option.some.inj h0
     exact rt_ (ret_ rfl rfl rfl rfl rfl trivial)
    ·replace h0 := inb c33 h0
     refine sk_ ?_
     refine wk_ ⟨[(1, iV a1), (2, .ptr 128 0), (6, .ptr 384 0), (7, .own 1793 0 1 (r6.2.1.map eI)), (8, iV r6.2.2), (10, .ptr 640 0), (11, .own 2369 0 1 (r10.2.1.map eI))], [(128, [iV a0.clock, iV a0.next, .lst 4 (a0.list_.map eDLease)]), (384, [iV r6.1.clock, iV r6.1.next, .own 1792 0 4 (r6.1.list_.map eDLease)]), (640, [iV r10.1.clock, iV r10.1.next, .own 2368 0 4 (r10.1.list_.map eDLease)])], []⟩ (fgk (by kernel_rfl)) ?_
     refine seq_ ?_
     refine reg_ ?_
     refine st (mvc_ trivial ?_)
     refine oe_ ?_
     refine wk_ ⟨[(1, iV a1), (2, .ptr 128 0), (6, .ptr 384 0), (7, .own 1793 0 1 (r6.2.1.map eI)), (8, iV r6.2.2), (10, .ptr 640 0), (11, .own 2369 0 1 (r10.2.1.map eI)), (14, iV 1)], [(128, [iV a0.clock, iV a0.next, .lst 4 (a0.list_.map eDLease)]), (384, [iV r6.1.clock, iV r6.1.next, .own 1792 0 4 (r6.1.list_.map eDLease)]), (640, [iV r10.1.clock, iV r10.1.next, .own 2368 0 4 (r10.1.list_.map eDLease)])], []⟩ (fgk (by kernel_rfl)) ?_
     refine seq_ ?_
     refine reg_ ?_
     refine st (c_ (v := .agg [iV r10.1.clock, iV r10.1.next, .own 2368 0 4 (r10.1.list_.map eDLease)]) (cp_ ⟨trivial, trivial⟩ rfl (nl rfl)) ?_)
     refine st (mv_ rfl trivial ?_)
     obtain ⟨r34, e35, h0⟩ := bnd h0
     obtain ⟨c36, h0⟩ := grd h0
     refine st (call1_ [] [2368] [] false (H26 r10.1 1 r34 e35) ⟨trivial, trivial, trivial⟩ (by kernel_rfl) (by kernel_rfl) (by kernel_rfl) (by kernel_rfl) (fun _ => and_ rfl (and_ (fl2 (fun _ => rfl)) rfl)) ?_)
     refine sw ⟨[(1, iV a1), (2, .ptr 128 0), (6, .ptr 384 0), (7, .own 1793 0 1 (r6.2.1.map eI)), (8, iV r6.2.2), (10, .ptr 640 0), (11, .own 2369 0 1 (r10.2.1.map eI)), (85, iV r34.1)], [(128, [iV a0.clock, iV a0.next, .lst 4 (a0.list_.map eDLease)]), (384, [iV r6.1.clock, iV r6.1.next, .own 1792 0 4 (r6.1.list_.map eDLease)]), (640, [iV r10.1.clock, iV r10.1.next, .own 2368 0 4 (r34.2.map eDLease)])], []⟩ (fg ⟨rfl, rfl, rfl, rfl, rfl, rfl, rfl, rfl, trivial⟩ ⟨rfl, rfl, (congrArg (fun z => some (([iV r10.1.clock, iV r10.1.next, z] : List V))) (row_eq c36)), trivial⟩) (mv_ rfl trivial ?_)
     refine oe_ ?_
     refine wk_ ⟨[(1, iV a1), (2, .ptr 128 0), (6, .ptr 384 0), (7, .own 1793 0 1 (r6.2.1.map eI)), (8, iV r6.2.2), (10, .ptr 640 0), (11, .own 2369 0 1 (r10.2.1.map eI)), (14, iV r34.1)], [(128, [iV a0.clock, iV a0.next, .lst 4 (a0.list_.map eDLease)]), (384, [iV r6.1.clock, iV r6.1.next, .own 1792 0 4 (r6.1.list_.map eDLease)]), (640, [iV r10.1.clock, iV r10.1.next, .own 2368 0 4 (r34.2.map eDLease)])], []⟩ (fgk (by kernel_rfl)) ?_
     refine seq_ ?_
     refine reg_ ?_
     refine st (mv_ rfl trivial ?_)
     refine st (mv_ rfl trivial ?_)
     obtain ⟨r37, e38, h0⟩ := bnd h0
     obtain ⟨c39, h0⟩ := grd h0
     refine st (call1_ [] [2369] [] false (H37 r10.2.1 r34.1 r37 e38) ⟨trivial, trivial, trivial⟩ (by kernel_rfl) (by kernel_rfl) (by kernel_rfl) (by kernel_rfl) (fun _ => and_ rfl (and_ (fl2 (fun _ => rfl)) rfl)) ?_)
     refine sw ⟨[(1, iV a1), (2, .ptr 128 0), (6, .ptr 384 0), (7, .own 1793 0 1 (r6.2.1.map eI)), (8, iV r6.2.2), (10, .ptr 640 0), (11, .own 2369 0 1 (r37.2.map eI)), (88, iV r37.1)], [(128, [iV a0.clock, iV a0.next, .lst 4 (a0.list_.map eDLease)]), (384, [iV r6.1.clock, iV r6.1.next, .own 1792 0 4 (r6.1.list_.map eDLease)]), (640, [iV r10.1.clock, iV r10.1.next, .own 2368 0 4 (r34.2.map eDLease)])], []⟩ (fg ⟨rfl, rfl, rfl, rfl, rfl, rfl, (congrArg (fun z => some ((z : V))) (row_eq c39)), rfl, trivial⟩ ⟨rfl, rfl, rfl, trivial⟩) (mv_ rfl trivial ?_)
     refine oe_ ?_
     refine wk_ ⟨[(1, iV a1), (2, .ptr 128 0), (6, .ptr 384 0), (7, .own 1793 0 1 (r6.2.1.map eI)), (8, iV r6.2.2), (10, .ptr 640 0), (11, .own 2369 0 1 (r37.2.map eI)), (14, iV r37.1)], [(128, [iV a0.clock, iV a0.next, .lst 4 (a0.list_.map eDLease)]), (384, [iV r6.1.clock, iV r6.1.next, .own 1792 0 4 (r6.1.list_.map eDLease)]), (640, [iV r10.1.clock, iV r10.1.next, .own 2368 0 4 (r34.2.map eDLease)])], []⟩ (fgk (by kernel_rfl)) ?_
     refine seq_ ?_
     refine reg_ ?_
     refine st (mvc_ trivial ?_)
     refine oe_ ?_
     refine wk_ ⟨[(1, iV a1), (2, .ptr 128 0), (6, .ptr 384 0), (7, .own 1793 0 1 (r6.2.1.map eI)), (8, iV r6.2.2), (10, .ptr 640 0), (11, .own 2369 0 1 (r37.2.map eI)), (14, iV r37.1), (15, iV 1)], [(128, [iV a0.clock, iV a0.next, .lst 4 (a0.list_.map eDLease)]), (384, [iV r6.1.clock, iV r6.1.next, .own 1792 0 4 (r6.1.list_.map eDLease)]), (640, [iV r10.1.clock, iV r10.1.next, .own 2368 0 4 (r34.2.map eDLease)])], []⟩ (fgk (by kernel_rfl)) ?_
     refine seq_ ?_
     refine reg_ ?_
     refine st (c_ (v := .agg [iV r10.1.clock, iV r10.1.next, .own 2368 0 4 (r34.2.map eDLease)]) (cp_ ⟨trivial, trivial⟩ rfl (nl rfl)) ?_)
     refine st (mv_ rfl trivial ?_)
     obtain ⟨r40, e41, h0⟩ := bnd h0
     refine st (call0_ (r := iV r40) false (H27 (DTable.mk r10.1.clock r10.1.next r34.2) 1 r40 e41) ⟨trivial, trivial, trivial⟩ rfl rfl (fun _ => rfl) ?_)
     refine st (mv_ rfl trivial ?_)
     refine oe_ ?_
     refine wk_ ⟨[(1, iV a1), (2, .ptr 128 0), (6, .ptr 384 0), (7, .own 1793 0 1 (r6.2.1.map eI)), (8, iV r6.2.2), (10, .ptr 640 0), (11, .own 2369 0 1 (r37.2.map eI)), (14, iV r37.1), (15, iV r40)], [(128, [iV a0.clock, iV a0.next, .lst 4 (a0.list_.map eDLease)]), (384, [iV r6.1.clock, iV r6.1.next, .own 1792 0 4 (r6.1.list_.map eDLease)]), (640, [iV r10.1.clock, iV r10.1.next, .own 2368 0 4 (r34.2.map eDLease)])], []⟩ (fgk (by kernel_rfl)) ?_
     refine seq_ ?_
     refine seq_ ?_
     refine reg_ ?_
     refine st (mv_ rfl trivial ?_)
     refine st (c_ (cp_ t3 rfl trivial) ?_)
     refine oe_ ?_
     refine wk_ ⟨[(1, iV a1), (2, .ptr 128 0), (6, .ptr 384 0), (7, .own 1793 0 1 (r6.2.1.map eI)), (8, iV r6.2.2), (10, .ptr 640 0), (11, .own 2369 0 1 (r37.2.map eI)), (14, iV r37.1), (15, iV r40), (93, .bool (decide (r40 < 0)))], [(128, [iV a0.clock, iV a0.next, .lst 4 (a0.list_.map eDLease)]), (384, [iV r6.1.clock, iV r6.1.next, .own 1792 0 4 (r6.1.list_.map eDLease)]), (640, [iV r10.1.clock, iV r10.1.next, .own 2368 0 4 (r34.2.map eDLease)])], []⟩ (fgk (by kernel_rfl)) ?_
     refine ite_ (cb := (decide (r40 < 0))) rfl (fun c42 => ?_) (fun c42 => ?_)
     ·replace h0 := ip c42 h0
      refine seq_ ?_
      refine reg_ ?_
      refine st (mvc_ trivial ?_)
      refine oe_ ?_
      refine wk_ ⟨[(4, .bool false)], [], []⟩ (fgk (by kernel_rfl)) ?_
      obtain rfl := Option.some.inj h0
      exact rt_ (ret_ rfl rfl rfl rfl rfl trivial)
     ·replace h0 := inb c42 h0
      refine sk_ ?_
      refine wk_ ⟨[(1, iV a1), (2, .ptr 128 0), (6, .ptr 384 0), (7, .own 1793 0 1 (r6.2.1.map eI)), (8, iV r6.2.2), (10, .ptr 640 0), (11, .own 2369 0 1 (r37.2.map eI)), (14, iV r37.1), (15, iV r40)], [(128, [iV a0.clock, iV a0.next, .lst 4 (a0.list_.map eDLease)]), (384, [iV r6.1.clock, iV r6.1.next, .own 1792 0 4 (r6.1.list_.map eDLease)]), (640, [iV r10.1.clock, iV r10.1.next, .own 2368 0 4 (r34.2.map eDLease)])], []⟩ (fgk (by kernel_rfl)) ?_
      refine seq_ ?_
      refine reg_ ?_
      refine st (mv_ rfl trivial ?_)
      refine st (mv_ rfl trivial ?_)
      obtain ⟨r43, e44, h0⟩ := bnd h0
      refine st (call0_ (r := iV r43) false (H38 r37.2 r40 r43 e44) ⟨trivial, trivial, trivial⟩ rfl rfl (fun _ => rfl) ?_)
      refine st (mv_ rfl trivial ?_)
      refine oe_ ?_
      refine wk_ ⟨[(1, iV a1), (2, .ptr 128 0), (6, .ptr 384 0), (7, .own 1793 0 1 (r6.2.1.map eI)), (8, iV r6.2.2), (10, .ptr 640 0), (11, .own 2369 0 1 (r37.2.map eI)), (14, iV r37.1), (15, iV r43)], [(128, [iV a0.clock, iV a0.next, .lst 4 (a0.list_.map eDLease)]), (384, [iV r6.1.clock, iV r6.1.next, .own 1792 0 4 (r6.1.list_.map eDLease)]), (640, [iV r10.1.clock, iV r10.1.next, .own 2368 0 4 (r34.2.map eDLease)])], []⟩ (fgk (by kernel_rfl)) ?_
      refine seq_ ?_
      refine seq_ ?_
      refine reg_ ?_
      refine st (mv_ rfl trivial ?_)
      refine st (c_ (cp_ t3 rfl trivial) ?_)
      refine oe_ ?_
      refine wk_ ⟨[(1, iV a1), (2, .ptr 128 0), (6, .ptr 384 0), (7, .own 1793 0 1 (r6.2.1.map eI)), (8, iV r6.2.2), (10, .ptr 640 0), (11, .own 2369 0 1 (r37.2.map eI)), (14, iV r37.1), (15, iV r43), (98, .bool (decide (r43 < 0)))], [(128, [iV a0.clock, iV a0.next, .lst 4 (a0.list_.map eDLease)]), (384, [iV r6.1.clock, iV r6.1.next, .own 1792 0 4 (r6.1.list_.map eDLease)]), (640, [iV r10.1.clock, iV r10.1.next, .own 2368 0 4 (r34.2.map eDLease)])], []⟩ (fgk (by kernel_rfl)) ?_
      refine ite_ (cb := (decide (r43 < 0))) rfl (fun c45 => ?_) (fun c45 => ?_)
      ·replace h0 := ip c45 h0
       refine seq_ ?_
       refine reg_ ?_
       refine st (mvc_ trivial ?_)
       refine oe_ ?_
       refine wk_ ⟨[(4, .bool false)], [], []⟩ (fgk (by kernel_rfl)) ?_
       obtain rfl := Option.some.inj h0
       exact rt_ (ret_ rfl rfl rfl rfl rfl trivial)
      ·replace h0 := inb c45 h0
       refine sk_ ?_
       refine wk_ ⟨[(1, iV a1), (2, .ptr 128 0), (6, .ptr 384 0), (7, .own 1793 0 1 (r6.2.1.map eI)), (8, iV r6.2.2), (10, .ptr 640 0), (11, .own 2369 0 1 (r37.2.map eI)), (14, iV r37.1), (15, iV r43)], [(128, [iV a0.clock, iV a0.next, .lst 4 (a0.list_.map eDLease)]), (384, [iV r6.1.clock, iV r6.1.next, .own 1792 0 4 (r6.1.list_.map eDLease)]), (640, [iV r10.1.clock, iV r10.1.next, .own 2368 0 4 (r34.2.map eDLease)])], []⟩ (fgk (by kernel_rfl)) ?_
       refine seq_ ?_
       refine seq_ ?_
       refine reg_ ?_
       refine st (mv_ rfl trivial ?_)
       refine st (mv_ rfl trivial ?_)
       refine st (c_ (cp_ t3 rfl trivial) ?_)
       refine oe_ ?_
       refine wk_ ⟨[(1, iV a1), (2, .ptr 128 0), (6, .ptr 384 0), (7, .own 1793 0 1 (r6.2.1.map eI)), (8, iV r6.2.2), (10, .ptr 640 0), (11, .own 2369 0 1 (r37.2.map eI)), (14, iV r37.1), (101, .bool (r43 != r37.1))], [(128, [iV a0.clock, iV a0.next, .lst 4 (a0.list_.map eDLease)]), (384, [iV r6.1.clock, iV r6.1.next, .own 1792 0 4 (r6.1.list_.map eDLease)]), (640, [iV r10.1.clock, iV r10.1.next, .own 2368 0 4 (r34.2.map eDLease)])], []⟩ (fgk (by kernel_rfl)) ?_
       refine ite_ (cb := (r43 != r37.1)) rfl (fun c46 => ?_) (fun c46 => ?_)
       ·replace h0 := ip c46 h0
        refine seq_ ?_
        refine reg_ ?_
        refine st (mvc_ trivial ?_)
        refine oe_ ?_
        refine wk_ ⟨[(4, .bool false)], [], []⟩ (fgk (by kernel_rfl)) ?_
        obtain rfl := Option.some.inj h0
        exact rt_ (ret_ rfl rfl rfl rfl rfl trivial)
       ·replace h0 := inb c46 h0
        refine sk_ ?_
        refine wk_ ⟨[(1, iV a1), (2, .ptr 128 0), (6, .ptr 384 0), (7, .own 1793 0 1 (r6.2.1.map eI)), (8, iV r6.2.2), (10, .ptr 640 0), (11, .own 2369 0 1 (r37.2.map eI)), (14, iV r37.1)], [(128, [iV a0.clock, iV a0.next, .lst 4 (a0.list_.map eDLease)]), (384, [iV r6.1.clock, iV r6.1.next, .own 1792 0 4 (r6.1.list_.map eDLease)]), (640, [iV r10.1.clock, iV r10.1.next, .own 2368 0 4 (r34.2.map eDLease)])], []⟩ (fgk (by kernel_rfl)) ?_
        refine seq_ ?_
        refine reg_ ?_
        refine st (c_ (v := .agg (eDTable a0)) (cp_ ⟨trivial, trivial⟩ rfl (nl rfl)) ?_)
        obtain ⟨r47, e48, h0⟩ := bnd h0
        refine st (call0_ (r := .agg [iV r47.clock, iV r47.next, .own 0 0 4 (r47.list_.map eDLease)]) false (H19 a0 r47 e48) ⟨trivial, trivial⟩ rfl rfl (fun _ => (and_ rfl (and_ rfl (and_ (fl1 (fun _ => rfl)) rfl)))) ?_)
        refine st (mv_ rfl trivial ?_)
        obtain ⟨r49, e50, h0⟩ := bnd h0
        refine st (call0_ (r := .tup [.agg [iV r49.1.clock, iV r49.1.next, .own 0 0 4 (r49.1.list_.map eDLease)], .own 1 0 1 (r49.2.1.map eI), iV r49.2.2]) false (H35 r47 a1 r49 e50) ⟨trivial, trivial, trivial⟩ rfl rfl (fun _ => (and_ rfl (and_ rfl (and_ (fl1 (fun _ => rfl)) (and_ (fl1 (fun _ => rfl)) (and_ rfl rfl)))))) ?_)
        refine st (mv_ rfl trivial ?_)
        refine st (c_ (cp_ ⟨trivial, trivial⟩ rfl trivial) ?_)
        refine st (c_ (cp_ ⟨trivial, trivial⟩ rfl trivial) ?_)
        refine st (c_ (cp_ ⟨trivial, trivial⟩ rfl trivial) ?_)
        refine st (alloc_ ?_)
        refine sw ⟨[(6, .ptr 384 0), (7, .own 1793 0 1 (r6.2.1.map eI)), (8, iV r6.2.2), (10, .ptr 640 0), (11, .own 2369 0 1 (r37.2.map eI)), (14, iV r37.1), (16, .ptr 1024 0), (107, .agg [iV r49.1.clock, iV r49.1.next, .own 6784 0 4 (r49.1.list_.map eDLease)]), (108, .own 6785 0 1 (r49.2.1.map eI)), (109, iV r49.2.2)], [(384, [iV r6.1.clock, iV r6.1.next, .own 1792 0 4 (r6.1.list_.map eDLease)]), (640, [iV r10.1.clock, iV r10.1.next, .own 2368 0 4 (r34.2.map eDLease)]), (1024, [iV 0, iV 0, .own 1027 0 4 (([] : List DLease).map eDLease)])], []⟩ (fgk (by kernel_rfl)) (stp_ rfl rfl trivial rfl rfl rfl (nl rfl) ?_)
        refine st (mv_ rfl trivial ?_)
        refine st (mv_ rfl trivial ?_)
        refine oe_ ?_
        refine wk_ ⟨[(6, .ptr 384 0), (7, .own 1793 0 1 (r6.2.1.map eI)), (8, iV r6.2.2), (10, .ptr 640 0), (11, .own 2369 0 1 (r37.2.map eI)), (14, iV r37.1), (16, .ptr 1024 0), (17, .own 6785 0 1 (r49.2.1.map eI)), (18, iV r49.2.2)], [(384, [iV r6.1.clock, iV r6.1.next, .own 1792 0 4 (r6.1.list_.map eDLease)]), (640, [iV r10.1.clock, iV r10.1.next, .own 2368 0 4 (r34.2.map eDLease)]), (1024, [iV r49.1.clock, iV r49.1.next, .own 6784 0 4 (r49.1.list_.map eDLease)])], []⟩ (fgk (by kernel_rfl)) ?_
        refine seq_ ?_
        refine seq_ ?_
        refine reg_ ?_
        refine st (c_ (v := .agg [iV r49.1.clock, iV r49.1.next, .own 6784 0 4 (r49.1.list_.map eDLease)]) (cp_ ⟨trivial, trivial⟩ rfl (nl rfl)) ?_)
        refine st (c_ (v := .agg [iV r6.1.clock, iV r6.1.next, .own 1792 0 4 (r6.1.list_.map eDLease)]) (cp_ ⟨trivial, trivial⟩ rfl (nl rfl)) ?_)
        obtain ⟨r51, e52, h0⟩ := bnd h0
        refine st (call0_ (r := .bool r51) false (H21 r49.1 r6.1 r51 e52) ⟨trivial, trivial, trivial⟩ rfl rfl (fun _ => rfl) ?_)
        refine st (c_ (cp_ ⟨trivial, trivial⟩ rfl trivial) ?_)
        refine st (mv_ rfl trivial ?_)
        refine st (pg_ (u := .own 6785 0 1 (r49.2.1.map eI)) rfl (fun hg => (cmv (v := .own 6785 0 1 (r49.2.1.map eI)) rfl trivial)) ?_)
        refine st (pg_ (u := .own 1793 0 1 (r6.2.1.map eI)) rfl (fun hg => (cmv (v := .own 1793 0 1 (r6.2.1.map eI)) rfl trivial)) ?_)
        obtain ⟨r53, e54, h0⟩ := bnd h0
        refine sw ⟨[(8, iV r6.2.2), (10, .ptr 640 0), (11, .own 2369 0 1 (r37.2.map eI)), (14, iV r37.1), (18, iV r49.2.2), (114, .bool (!r51)), (115, .may ((!r51) == false) (.own 6785 0 1 (r49.2.1.map eI))), (116, .may ((!r51) == false) (.own 1793 0 1 (r6.2.1.map eI)))], [(640, [iV r10.1.clock, iV r10.1.next, .own 2368 0 4 (r34.2.map eDLease)])], []⟩ (fgk (by kernel_rfl)) (callg_ (r := .bool r53) rfl false (fun hg => H36 r49.2.1 r6.2.1 r53 (ip hg e54)) ⟨(fun hg => hg), (fun hg => hg), trivial⟩ (fun _ => rfl) (fun _ => rfl) (fun _ => rfl) (fun h => nomatch h) ?_)
        refine st (pg_ (u := .bool (!r53)) rfl (fun hg => (cp_ ⟨(fun _ => hg), trivial⟩ rfl trivial)) ?_)
        refine st (pick_ rfl rfl rfl trivial (fun h => eqf h) rfl ?_)
        refine st (mv_ rfl trivial ?_)
        refine st (pg_ (u := iV r49.2.2) rfl (fun hg => (cmv (v := iV r49.2.2) rfl trivial)) ?_)
        refine st (pg_ (u := iV r6.2.2) rfl (fun hg => (cmv (v := iV r6.2.2) rfl trivial)) ?_)
        refine st (pg_ (u := .bool (r49.2.2 != r6.2.2)) rfl (fun hg => (cp_ ⟨(fun _ => hg), (fun _ => hg), trivial⟩ rfl trivial)) ?_)
        refine st (pick_ rfl rfl rfl trivial (fun h => eqf h) rfl ?_)
        refine oe_ ?_
        obtain ⟨v55, e56, h0⟩ := bl h0
        refine wk_ ⟨[(10, .ptr 640 0), (11, .own 2369 0 1 (r37.2.map eI)), (14, iV r37.1), (124, .bool v55)], [(640, [iV r10.1.clock, iV r10.1.next, .own 2368 0 4 (r34.2.map eDLease)])], []⟩ (fgk (by subst e56; kernel_rfl)) ?_
        refine ite_ (cb := v55) rfl (fun c57 => ?_) (fun c57 => ?_)
        ·replace h0 := ip c57 h0
         refine seq_ ?_
         refine reg_ ?_
         refine st (mvc_ trivial ?_)
         refine oe_ ?_
         refine wk_ ⟨[(4, .bool false)], [], []⟩ (fgk (by kernel_rfl)) ?_
         obtain rfl := Option.some.inj h0
         exact rt_ (ret_ rfl rfl rfl rfl rfl trivial)
        ·replace h0 := inb c57 h0
         refine sk_ ?_
         refine wk_ ⟨[(10, .ptr 640 0), (11, .own 2369 0 1 (r37.2.map eI)), (14, iV r37.1)], [(640, [iV r10.1.clock, iV r10.1.next, .own 2368 0 4 (r34.2.map eDLease)])], []⟩ (fgk (by kernel_rfl)) ?_
         refine seq_ ?_
         refine reg_ ?_
         refine st (mvc_ trivial ?_)
         refine oe_ ?_
         refine wk_ ⟨[(10, .ptr 640 0), (11, .own 2369 0 1 (r37.2.map eI)), (14, iV r37.1), (15, iV 1)], [(640, [iV r10.1.clock, iV r10.1.next, .own 2368 0 4 (r34.2.map eDLease)])], []⟩ (fgk (by kernel_rfl)) ?_
         refine seq_ ?_
         refine reg_ ?_
         refine st (c_ (v := .agg [iV r10.1.clock, iV r10.1.next, .own 2368 0 4 (r34.2.map eDLease)]) (cp_ ⟨trivial, trivial⟩ rfl (nl rfl)) ?_)
         refine st (mv_ rfl trivial ?_)
         obtain ⟨r58, e59, h0⟩ := bnd h0
         refine st (call0_ (r := iV r58) false (H27 (DTable.mk r10.1.clock r10.1.next r34.2) 1 r58 e59) ⟨trivial, trivial, trivial⟩ rfl rfl (fun _ => rfl) ?_)
         refine st (mv_ rfl trivial ?_)
         refine oe_ ?_
         refine wk_ ⟨[(11, .own 2369 0 1 (r37.2.map eI)), (14, iV r37.1), (15, iV r58)], [], []⟩ (fgk (by kernel_rfl)) ?_
         refine seq_ ?_
         refine seq_ ?_
         refine reg_ ?_
         refine st (mv_ rfl trivial ?_)
         refine st (c_ (cp_ t3 rfl trivial) ?_)
         refine oe_ ?_
         refine wk_ ⟨[(11, .own 2369 0 1 (r37.2.map eI)), (14, iV r37.1), (15, iV r58), (129, .bool (decide (r58 < 0)))], [], []⟩ (fgk (by kernel_rfl)) ?_
         refine ite_ (cb := (decide (r58 < 0))) rfl (fun c60 => ?_) (fun c60 => ?_)
         ·replace h0 := ip c60 h0
          refine seq_ ?_
          refine reg_ ?_
          refine st (mvc_ trivial ?_)
          refine oe_ ?_
          refine wk_ ⟨[(4, .bool false)], [], []⟩ (fgk (by kernel_rfl)) ?_
          obtain rfl := Option.some.inj h0
          exact rt_ (ret_ rfl rfl rfl rfl rfl trivial)
         ·replace h0 := inb c60 h0
          refine sk_ ?_
          refine wk_ ⟨[(11, .own 2369 0 1 (r37.2.map eI)), (14, iV r37.1), (15, iV r58)], [], []⟩ (fgk (by kernel_rfl)) ?_
          refine seq_ ?_
          refine reg_ ?_
          refine st (mv_ rfl trivial ?_)
          refine st (mv_ rfl trivial ?_)
          obtain ⟨r61, e62, h0⟩ := bnd h0
          refine st (call0_ (r := iV r61) false (H38 r37.2 r58 r61 e62) ⟨trivial, trivial, trivial⟩ rfl rfl (fun _ => rfl) ?_)
          refine st (mv_ rfl trivial ?_)
          refine oe_ ?_
          refine wk_ ⟨[(14, iV r37.1), (15, iV r61)], [], []⟩ (fgk (by kernel_rfl)) ?_
          refine seq_ ?_
          refine seq_ ?_
          refine reg_ ?_
          refine st (mv_ rfl trivial ?_)
          refine st (c_ (cp_ t3 rfl trivial) ?_)
          refine oe_ ?_
          refine wk_ ⟨[(14, iV r37.1), (15, iV r61), (134, .bool (decide (r61 < 0)))], [], []⟩ (fgk (by kernel_rfl)) ?_
          refine ite_ (cb := (decide (r61 < 0))) rfl (fun c63 => ?_) (fun c63 => ?_)
          ·replace h0 := ip c63 h0
           refine seq_ ?_
           refine reg_ ?_
           refine st (mvc_ trivial ?_)
           refine oe_ ?_
           refine wk_ ⟨[(4, .bool false)], [], []⟩ (fgk (by kernel_rfl)) ?_
           obtain rfl := Option.some.inj h0
           exact rt_ (ret_ rfl rfl rfl rfl rfl trivial)
          ·replace h0 := inb c63 h0
           refine sk_ ?_
           refine wk_ ⟨[(14, iV r37.1), (15, iV r61)], [], []⟩ (fgk (by kernel_rfl)) ?_
           refine seq_ ?_
           refine seq_ ?_
           refine reg_ ?_
           refine st (mv_ rfl trivial ?_)
           refine st (mv_ rfl trivial ?_)
           refine st (c_ (cp_ t3 rfl trivial) ?_)
           refine oe_ ?_
           refine wk_ ⟨[(137, .bool (r61 != r37.1))], [], []⟩ (fgk (by kernel_rfl)) ?_
           refine ite_ (cb := (r61 != r37.1)) rfl (fun c64 => ?_) (fun c64 => ?_)
           ·replace h0 := ip c64 h0
            refine seq_ ?_
            refine reg_ ?_
            refine st (mvc_ trivial ?_)
            refine oe_ ?_
            refine wk_ ⟨[(4, .bool false)], [], []⟩ (fgk (by kernel_rfl)) ?_
            obtain rfl := Option.some.inj h0
            exact rt_ (ret_ rfl rfl rfl rfl rfl trivial)
           ·replace h0 := inb c64 h0
            refine sk_ ?_
            refine wk_ ⟨[], [], []⟩ (fgk (by kernel_rfl)) ?_
            refine seq_ ?_
            refine reg_ ?_
            refine st (mvc_ trivial ?_)
            refine oe_ ?_
            refine wk_ ⟨[(4, .bool true)], [], []⟩ (fgk (by kernel_rfl)) ?_
            obtain rfl := Option.some.inj h0
            exact rt_ (ret_ rfl rfl rfl rfl rfl trivial)
end Go.Ev
