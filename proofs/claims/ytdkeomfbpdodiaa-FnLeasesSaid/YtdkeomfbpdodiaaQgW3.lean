/- The walks of functions: the code comes to the answers that QgD tells. Written by a program of ours. -/
import Derived.Test.YtdkeomfbpdodiaaQgW2
set_option linter.all false
set_option maxHeartbeats 4000000
set_option linter.unusedVariables false
set_option maxRecDepth 100000
namespace Go.Ev

/- slices.pdqsortCmpFunc[loop.example/g00149/impl.Lease] -/
def c137_r0 : List Ins := [⟨some 10, .p (.mv (.c (.bool true))), none⟩]
def c137_r1 : List Ins := [⟨some 11, .p (.mv (.c (.bool true))), none⟩]
def c137_r2 : List Ins := [(iQ 21 (.mv (.t 2))),
(iQ 22 (.mv (.t 1))),
(iQ 23 (.bin .sub (.t 21) (.t 22))),
(iQ 12 (.mv (.t 23)))]
def c137_r3 : List Ins := [(iQ 24 (.mv (.t 12))),
⟨some 25, .p (.bin .leq (.t 24) (.c (iV 12))), none⟩]
def c137_r4 : List Ins := [(iQ 26 (.mv (.t 0))),
(iQ 27 (.mv (.t 1))),
(iQ 28 (.mv (.t 2))),
(iQ 29 (.mv (.t 4))),
⟨some 30, .call 148 [(.t 26), (.t 27), (.t 28), (.t 29)], none⟩]
def c137_r5 : List Ins := [(iQ 31 (.mv (.t 3))),
⟨some 32, .p (.bin .eql (.t 31) (.c (iV 0))), none⟩]
def c137_r6 : List Ins := [(iQ 33 (.mv (.t 0))),
(iQ 34 (.mv (.t 1))),
(iQ 35 (.mv (.t 2))),
(iQ 36 (.mv (.t 4))),
⟨some 37, .call 149 [(.t 33), (.t 34), (.t 35), (.t 36)], none⟩]
def c137_r7 : List Ins := [(iQ 38 (.mv (.t 10))),
(iQ 39 (.un .not (.t 38)))]
def c137_r8 : List Ins := [(iQ 40 (.mv (.t 0))),
(iQ 41 (.mv (.t 1))),
(iQ 42 (.mv (.t 2))),
(iQ 43 (.mv (.t 4))),
⟨some 44, .call 150 [(.t 40), (.t 41), (.t 42), (.t 43)], none⟩]
def c137_r9 : List Ins := [(iQ 45 (.mv (.t 3))),
⟨some 46, .p (.bin .sub (.t 45) (.c (iV 1))), none⟩,
(iQ 3 (.mv (.t 46)))]
def c137_r10 : List Ins := [(iQ 48 (.mv (.t 0))),
(iQ 49 (.mv (.t 1))),
(iQ 50 (.mv (.t 2))),
(iQ 51 (.mv (.t 4))),
⟨some 52, .call 151 [(.t 48), (.t 49), (.t 50), (.t 51)], none⟩,
(iQ 47 (.mv (.t 52))),
(iQ 53 (.ext (.t 47) 0)),
(iQ 54 (.ext (.t 47) 1)),
(iQ 13 (.mv (.t 53))),
(iQ 14 (.mv (.t 54)))]
def c137_r11 : List Ins := [(iQ 55 (.mv (.t 14))),
⟨some 56, .p (.bin .eql (.t 55) (.c (iV 2))), none⟩]
def c137_r12 : List Ins := [(iQ 57 (.mv (.t 0))),
(iQ 58 (.mv (.t 1))),
(iQ 59 (.mv (.t 2))),
(iQ 60 (.mv (.t 4))),
⟨some 61, .call 152 [(.t 57), (.t 58), (.t 59), (.t 60)], none⟩]
def c137_r13 : List Ins := [(iQ 62 (.mv (.t 2))),
⟨some 63, .p (.bin .sub (.t 62) (.c (iV 1))), none⟩,
(iQ 64 (.mv (.t 13))),
(iQ 65 (.mv (.t 1))),
(iQ 66 (.bin .sub (.t 64) (.t 65))),
(iQ 67 (.bin .sub (.t 63) (.t 66))),
(iQ 13 (.mv (.t 67)))]
def c137_r14 : List Ins := [⟨some 14, .p (.mv (.c (iV 1))), none⟩]
def c137_r15 : List Ins := [(iQ 68 (.mv (.t 10))),
(iQ 69 (.mv (.t 68))),
⟨some 70, .p (.mv (.t 11)), some (69, true)⟩,
⟨some 71, .pick (.t 69) (.t 70) (.c (.bool false)), none⟩,
(iQ 72 (.mv (.t 71))),
⟨some 73, .p (.mv (.t 14)), some (72, true)⟩,
⟨some 74, .p (.bin .eql (.t 73) (.c (iV 1))), some (72, true)⟩,
⟨some 75, .pick (.t 72) (.t 74) (.c (.bool false)), none⟩]
def c137_r16 : List Ins := [(iQ 76 (.mv (.t 0))),
(iQ 77 (.mv (.t 1))),
(iQ 78 (.mv (.t 2))),
(iQ 79 (.mv (.t 4))),
⟨some 80, .call 153 [(.t 76), (.t 77), (.t 78), (.t 79)], none⟩]
def c137_r17 : DP := (.take (iQ 81 (.mv (.t 1)))
(.take ⟨some 82, .p (.bin .gtr (.t 81) (.c (iV 0))), none⟩
(.take (iQ 83 (.mv (.t 82)))
(.take ⟨some 84, .p (.mv (.t 4)), some (83, true)⟩
(.take ⟨some 85, .p (.mv (.t 0)), some (83, true)⟩
(.take ⟨some 86, .p (.mv (.t 1)), some (83, true)⟩
(.take ⟨some 87, .p (.bin .sub (.t 86) (.c (iV 1))), some (83, true)⟩
(.take ⟨some 88, .p (.idxA (.t 85) (.t 87) 4), some (83, true)⟩
(.take ⟨some 89, .p (.load (.t 88) 4 true), some (83, true)⟩
(.take ⟨some 90, .p (.mv (.t 0)), some (83, true)⟩
(.take ⟨some 91, .p (.mv (.t 13)), some (83, true)⟩
(.take ⟨some 92, .p (.idxA (.t 90) (.t 91) 4), some (83, true)⟩
(.take ⟨some 93, .p (.load (.t 92) 4 true), some (83, true)⟩
(.alt [] ⟨some 94, .callv (.t 84) [(.t 89), (.t 93)], some (83, true)⟩
(.take ⟨some 95, .p (.bin .lss (.t 94) (.c (iV 0))), some (83, true)⟩
(.take ⟨some 96, .p (.un .not (.t 95)), some (83, true)⟩
(.take ⟨some 97, .pick (.t 83) (.t 96) (.c (.bool false)), none⟩
.fin)))
.stop))))))))))))))
def c137_r18 : List Ins := [(iQ 98 (.mv (.t 0))),
(iQ 99 (.mv (.t 1))),
(iQ 100 (.mv (.t 2))),
(iQ 101 (.mv (.t 13))),
(iQ 102 (.mv (.t 4))),
⟨some 103, .call 154 [(.t 98), (.t 99), (.t 100), (.t 101), (.t 102)], none⟩,
(iQ 15 (.mv (.t 103)))]
def c137_r19 : List Ins := [(iQ 104 (.mv (.t 15))),
(iQ 1 (.mv (.t 104)))]
def c137_r20 : List Ins := [(iQ 106 (.mv (.t 0))),
(iQ 107 (.mv (.t 1))),
(iQ 108 (.mv (.t 2))),
(iQ 109 (.mv (.t 13))),
(iQ 110 (.mv (.t 4))),
⟨some 111, .call 155 [(.t 106), (.t 107), (.t 108), (.t 109), (.t 110)], none⟩,
(iQ 105 (.mv (.t 111))),
(iQ 112 (.ext (.t 105) 0)),
(iQ 113 (.ext (.t 105) 1)),
(iQ 16 (.mv (.t 112))),
(iQ 17 (.mv (.t 113)))]
def c137_r21 : List Ins := [(iQ 114 (.mv (.t 17))),
(iQ 11 (.mv (.t 114)))]
def c137_r22 : List Ins := [(iQ 115 (.mv (.t 16))),
(iQ 116 (.mv (.t 1))),
(iQ 117 (.bin .sub (.t 115) (.t 116))),
(iQ 118 (.mv (.t 2))),
(iQ 119 (.mv (.t 16))),
(iQ 120 (.bin .sub (.t 118) (.t 119))),
(iQ 18 (.mv (.t 117))),
(iQ 19 (.mv (.t 120)))]
def c137_r23 : List Ins := [(iQ 121 (.mv (.t 12))),
⟨some 122, .p (.bin .quo (.t 121) (.c (iV 8))), none⟩,
(iQ 20 (.mv (.t 122)))]
def c137_r24 : List Ins := [(iQ 123 (.mv (.t 18))),
(iQ 124 (.mv (.t 19))),
(iQ 125 (.bin .lss (.t 123) (.t 124)))]
def c137_r25 : List Ins := [(iQ 126 (.mv (.t 18))),
(iQ 127 (.mv (.t 20))),
(iQ 128 (.bin .geq (.t 126) (.t 127))),
(iQ 10 (.mv (.t 128)))]
def c137_r26 : List Ins := [(iQ 129 (.mv (.t 0))),
(iQ 130 (.mv (.t 1))),
(iQ 131 (.mv (.t 16))),
(iQ 132 (.mv (.t 3))),
(iQ 133 (.mv (.t 4))),
⟨some 134, .call 137 [(.t 129), (.t 130), (.t 131), (.t 132), (.t 133)], none⟩]
def c137_r27 : List Ins := [(iQ 135 (.mv (.t 16))),
⟨some 136, .p (.bin .add (.t 135) (.c (iV 1))), none⟩,
(iQ 1 (.mv (.t 136)))]
def c137_r28 : List Ins := [(iQ 137 (.mv (.t 19))),
(iQ 138 (.mv (.t 20))),
(iQ 139 (.bin .geq (.t 137) (.t 138))),
(iQ 10 (.mv (.t 139)))]
def c137_r29 : List Ins := [(iQ 140 (.mv (.t 0))),
(iQ 141 (.mv (.t 16))),
⟨some 142, .p (.bin .add (.t 141) (.c (iV 1))), none⟩,
(iQ 143 (.mv (.t 2))),
(iQ 144 (.mv (.t 3))),
(iQ 145 (.mv (.t 4))),
⟨some 146, .call 137 [(.t 140), (.t 142), (.t 143), (.t 144), (.t 145)], none⟩]
def c137_r30 : List Ins := [(iQ 147 (.mv (.t 16))),
(iQ 2 (.mv (.t 147)))]
def c137_l0 : IR := (.block 1 (.seq (.reg c137_r2) (.seq (.seq (.reg c137_r3) (.ite (.t 25) (.seq (.reg c137_r4) .ret) .skip)) (.seq (.seq (.reg c137_r5) (.ite (.t 32) (.seq (.reg c137_r6) .ret) .skip)) (.seq (.seq (.reg c137_r7) (.ite (.t 39) (.seq (.reg c137_r8) (.reg c137_r9)) .skip)) (.seq (.reg c137_r10) (.seq (.seq (.reg c137_r11) (.ite (.t 56) (.seq (.reg c137_r12) (.seq (.reg c137_r13) (.reg c137_r14))) .skip)) (.seq (.seq (.reg c137_r15) (.ite (.t 75) (.seq (.reg c137_r16) (.ite (.t 80) .ret .skip)) .skip)) (.seq (.seq (.draw c137_r17) (.ite (.t 97) (.seq (.reg c137_r18) (.seq (.reg c137_r19) (.exit 1))) .skip)) (.seq (.reg c137_r20) (.seq (.reg c137_r21) (.seq (.reg c137_r22) (.seq (.reg c137_r23) (.seq (.reg c137_r24) (.ite (.t 125) (.seq (.reg c137_r25) (.seq (.reg c137_r26) (.reg c137_r27))) (.seq (.reg c137_r28) (.seq (.reg c137_r29) (.reg c137_r30))))))))))))))))))
def c137 : XFn := { np := 5, nt := 148, res := [], body := (.seq (.reg c137_r0) (.seq (.reg c137_r1) (.block 0 (.loop c137_l0)))) }
def Kr137 (C : CRel) (rc : (List DLease) → Int → Int → Int → (DLease → DLease → Option Int) → Option (List DLease)) : Prop := ∀ (a0 : List DLease) (a1 : Int) (a2 : Int) (a3 : Int) (f4 : Nat) (k4 : List V) (is4 : DLease → DLease → Option Int) (hs4 : Shut k4) (hf4 : ∀ (x0 : DLease) (x1 : DLease) r, is4 x0 x1 = some r → C f4 ⟨.agg (eDLease x0) :: .agg (eDLease x1) :: k4, []⟩ ⟨iV r, [], []⟩) (r : (List DLease)), rc a0 a1 a2 a3 is4 = some r → C 137 ⟨[.own 2097152 0 4 (a0.map eDLease), iV a1, iV a2, iV a3, .clo f4 k4], []⟩ ⟨.tup [], [], [(0, 4, r.map eDLease)]⟩
def K137 (C : CRel) : Prop := ∀ n, Kr137 C (g137 n)
theorem F137 {C : CRel} (H148 : K148 C) (H149 : K149 C) (H150 : K150 C) (H151 : K151 C) (H152 : K152 C) (H153 : K153 C) (H154 : K154 C) (H155 : K155 C) (rc137 : (List DLease) → Int → Int → Int → (DLease → DLease → Option Int) → Option (List DLease)) (R137 : Kr137 C rc137) (a0 : List DLease) (a1 : Int) (a2 : Int) (a3 : Int) (f4 : Nat) (k4 : List V) (is4 : DLease → DLease → Option Int) (hs4 : Shut k4) (hf4 : ∀ (x0 : DLease) (x1 : DLease) r, is4 x0 x1 = some r → C f4 ⟨.agg (eDLease x0) :: .agg (eDLease x1) :: k4, []⟩ ⟨iV r, [], []⟩) (r : (List DLease)) (h0 : g137_b rc137 a0 a1 a2 a3 is4 = some r) : FnOK C c137 ⟨[.own 2097152 0 4 (a0.map eDLease), iV a1, iV a2, iV a3, .clo f4 k4], []⟩ ⟨.tup [], [], [(0, 4, r.map eDLease)]⟩ := by
 refine fn_ (nl rfl) (seq_ (reg_ (st (mvc_ tv (oe_ (wk_ ⟨[(0, .own 2097152 0 4 (a0.map eDLease)), (1, iV a1), (2, iV a2), (3, iV a3), (4, .clo f4 k4), (10, .bool true)], [], []⟩ (fg ⟨rfl, rfl, rfl, rfl, rfl, rfl, tv⟩ tv) (seq_ (reg_ (st (mvc_ tv (oe_ (wk_ ⟨[(0, .own 2097152 0 4 (a0.map eDLease)), (1, iV a1), (2, iV a2), (3, iV a3), (4, .clo f4 k4), (10, .bool true), (11, .bool true)], [], []⟩ (fg ⟨rfl, rfl, rfl, rfl, rfl, rfl, rfl, tv⟩ tv) (block_ ?_)))))))))))))
 obtain ⟨r214, e215, h0⟩ := bnd h0
 refine loop_ (R := (fun _ => False)) (g137_l0 is4 rc137) (fun s S => match s with | (p62, p63, p64, p65, p66, p67) => S = ⟨[(0, .own 2097152 0 4 (p62.map eDLease)), (1, iV p63), (2, iV p64), (3, iV p65), (4, .clo f4 k4), (10, .bool p66), (11, .bool p67)], [], []⟩) e215 ⟨[(0, .own 2097152 0 4 (a0.map eDLease)), (1, iV a1), (2, iV a2), (3, iV a3), (4, .clo f4 k4), (10, .bool true), (11, .bool true)], [], []⟩ (fg ⟨rfl, rfl, rfl, rfl, rfl, rfl, rfl, tv⟩ tv) rfl 0 (fun h => h.elim fun _ h => h.elim) ?_ ?_
 ·exact fun _ _ _ h => h.elim
 ·rintro ⟨p62, p63, p64, p65, p66, p67⟩ o1 _ K1 rfl h1 hx1 hK1 hE1 hR1
  refine block_ (seq_ (reg_ (st (mv_ rfl tv (st (mv_ rfl tv (st (c_ (cp_ t3 rfl tv) (st (mv_ rfl tv (oe_ (wk_ ⟨[(0, .own 2097152 0 4 (p62.map eDLease)), (1, iV p63), (2, iV p64), (3, iV p65), (4, .clo f4 k4), (10, .bool p66), (11, .bool p67), (12, iV (IntKind.i64.wrap (p64 - p63)))], [], []⟩ (fg ⟨rfl, rfl, rfl, rfl, rfl, rfl, rfl, rfl, tv⟩ tv) (seq_ (seq_ (reg_ (st (mv_ rfl tv (st (c_ (cp_ t3 rfl tv) (oe_ (wk_ ⟨[(0, .own 2097152 0 4 (p62.map eDLease)), (1, iV p63), (2, iV p64), (3, iV p65), (4, .clo f4 k4), (10, .bool p66), (11, .bool p67), (12, iV (IntKind.i64.wrap (p64 - p63))), (25, .bool (decide ((IntKind.i64.wrap (p64 - p63)) ≤ 12)))], [], []⟩ (fg ⟨rfl, rfl, rfl, rfl, rfl, rfl, rfl, rfl, rfl, tv⟩ tv) (ite_ (cb := (decide ((IntKind.i64.wrap (p64 - p63)) ≤ 12))) rfl (fun c135 => ?_) (fun c135 => ?_)))))))))))))))))))))))
  ·replace h1 := ip c135 h1
   refine seq_ (reg_ (st (mv_ rfl tv (st (mv_ rfl tv (st (mv_ rfl tv (st (mv_ rfl tv ?_)))))))))
   obtain ⟨r136, e137, h1⟩ := bnd h1
   obtain ⟨c138, h1⟩ := grd h1
   refine st (call1_ [] [2097152] [] false (H148 p62 p63 p64 f4 k4 is4 hs4 hf4 r136 e137) ⟨tv, tv, tv, tv, tv⟩ (by kernel_rfl) (congrArg (fun z => Give.mk z []) (mapc1 rfl (mapc1 rfl (mapc1 rfl (mapc1 (clo_sh hs4) rfl))))) (by kernel_rfl) (by kernel_rfl) (fun _ => and_ rfl (and_ (fl2 (fun _ => rfl)) rfl)) (oe_ (wk_ ⟨[(0, .own 2097152 0 4 (r136.map eDLease))], [], []⟩ (fg ⟨(congrArg (fun z => some ((z : V))) (row_eq c138)), tv⟩ tv) ?_)))
   obtain rfl := Option.some.inj h1
   obtain rfl := hx1 _ rfl
   obtain rfl := Option.some.inj h0
   exact rt_ (hR1 _ (ret_ rfl rfl rfl rfl rfl ⟨⟨rfl, mlen (fun _ => rfl)⟩, tv⟩))
  ·replace h1 := inb c135 h1
   refine sk_ (wk_ ⟨[(0, .own 2097152 0 4 (p62.map eDLease)), (1, iV p63), (2, iV p64), (3, iV p65), (4, .clo f4 k4), (10, .bool p66), (11, .bool p67), (12, iV (IntKind.i64.wrap (p64 - p63)))], [], []⟩ (fg ⟨rfl, rfl, rfl, rfl, rfl, rfl, rfl, rfl, tv⟩ tv) (seq_ (seq_ (reg_ (st (mv_ rfl tv (st (c_ (cp_ t3 rfl tv) (oe_ (wk_ ⟨[(0, .own 2097152 0 4 (p62.map eDLease)), (1, iV p63), (2, iV p64), (3, iV p65), (4, .clo f4 k4), (10, .bool p66), (11, .bool p67), (12, iV (IntKind.i64.wrap (p64 - p63))), (32, .bool (p65 == 0))], [], []⟩ (fg ⟨rfl, rfl, rfl, rfl, rfl, rfl, rfl, rfl, rfl, tv⟩ tv) (ite_ (cb := (p65 == 0)) rfl (fun c139 => ?_) (fun c139 => ?_))))))))))))
   ·replace h1 := ip c139 h1
    refine seq_ (reg_ (st (mv_ rfl tv (st (mv_ rfl tv (st (mv_ rfl tv (st (mv_ rfl tv ?_)))))))))
    obtain ⟨r140, e141, h1⟩ := bnd h1
    obtain ⟨c142, h1⟩ := grd h1
    refine st (call1_ [] [2097152] [] false (H149 p62 p63 p64 f4 k4 is4 hs4 hf4 r140 e141) ⟨tv, tv, tv, tv, tv⟩ (by kernel_rfl) (congrArg (fun z => Give.mk z []) (mapc1 rfl (mapc1 rfl (mapc1 rfl (mapc1 (clo_sh hs4) rfl))))) (by kernel_rfl) (by kernel_rfl) (fun _ => and_ rfl (and_ (fl2 (fun _ => rfl)) rfl)) (oe_ (wk_ ⟨[(0, .own 2097152 0 4 (r140.map eDLease))], [], []⟩ (fg ⟨(congrArg (fun z => some ((z : V))) (row_eq c142)), tv⟩ tv) ?_)))
    obtain rfl := Option.some.inj h1
    obtain rfl := hx1 _ rfl
    obtain rfl := Option.some.inj h0
    exact rt_ (hR1 _ (ret_ rfl rfl rfl rfl rfl ⟨⟨rfl, mlen (fun _ => rfl)⟩, tv⟩))
   ·replace h1 := inb c139 h1
    refine sk_ (wk_ ⟨[(0, .own 2097152 0 4 (p62.map eDLease)), (1, iV p63), (2, iV p64), (3, iV p65), (4, .clo f4 k4), (10, .bool p66), (11, .bool p67), (12, iV (IntKind.i64.wrap (p64 - p63)))], [], []⟩ (fg ⟨rfl, rfl, rfl, rfl, rfl, rfl, rfl, rfl, tv⟩ tv) (seq_ (seq_ (reg_ (st (mv_ rfl tv (st (c_ (cp_ ⟨tv, tv⟩ rfl tv) (oe_ (wk_ ⟨[(0, .own 2097152 0 4 (p62.map eDLease)), (1, iV p63), (2, iV p64), (3, iV p65), (4, .clo f4 k4), (10, .bool p66), (11, .bool p67), (12, iV (IntKind.i64.wrap (p64 - p63))), (39, .bool (!p66))], [], []⟩ (fg ⟨rfl, rfl, rfl, rfl, rfl, rfl, rfl, rfl, rfl, tv⟩ tv) (iteJ (cb := (!p66)) (fun S => ∃ p147 : List DLease, ∃ p148 : Int, S = ⟨[(0, .own 2097152 0 4 (p147.map eDLease)), (1, iV p63), (2, iV p64), (3, iV p148), (4, .clo f4 k4), (10, .bool p66), (11, .bool p67), (12, iV (IntKind.i64.wrap (p64 - p63)))], [], []⟩ ∧ g137_j0 is4 rc137 p63 p64 p66 p67 p147 p148 = some o1) rfl ?_ (fun c210 J209 => ?_) (fun c210 J209 => ?_))))))))))))
    ·rintro _ ⟨p147, p148, rfl, h1⟩
     refine wk_ ⟨[(0, .own 2097152 0 4 (p147.map eDLease)), (1, iV p63), (2, iV p64), (3, iV p148), (4, .clo f4 k4), (10, .bool p66), (11, .bool p67), (12, iV (IntKind.i64.wrap (p64 - p63)))], [], []⟩ (fg ⟨rfl, rfl, rfl, rfl, rfl, rfl, rfl, rfl, tv⟩ tv) (seq_ (reg_ (st (mv_ rfl tv (st (mv_ rfl tv (st (mv_ rfl tv (st (mv_ rfl tv ?_))))))))))
     obtain ⟨r149, e150, h1⟩ := bnd h1
     refine st (call0_ (r := .tup [iV r149.1, iV r149.2]) false (H151 p147 p63 p64 f4 k4 is4 hs4 hf4 r149 e150) ⟨tv, tv, tv, tv, tv⟩ rfl (mapc1 rfl (mapc1 rfl (mapc1 rfl (mapc1 (clo_sh hs4) rfl)))) (fun _ => rfl) (st (mv_ rfl tv (st (c_ (cp_ ⟨tv, tv⟩ rfl tv) (st (c_ (cp_ ⟨tv, tv⟩ rfl tv) (st (mv_ rfl tv (st (mv_ rfl tv (oe_ (wk_ ⟨[(0, .own 2097152 0 4 (p147.map eDLease)), (1, iV p63), (2, iV p64), (3, iV p148), (4, .clo f4 k4), (10, .bool p66), (11, .bool p67), (12, iV (IntKind.i64.wrap (p64 - p63))), (13, iV r149.1), (14, iV r149.2)], [], []⟩ (fg ⟨rfl, rfl, rfl, rfl, rfl, rfl, rfl, rfl, rfl, rfl, tv⟩ tv) (seq_ (seq_ (reg_ (st (mv_ rfl tv (st (c_ (cp_ t3 rfl tv) (oe_ (wk_ ⟨[(0, .own 2097152 0 4 (p147.map eDLease)), (1, iV p63), (2, iV p64), (3, iV p148), (4, .clo f4 k4), (10, .bool p66), (11, .bool p67), (12, iV (IntKind.i64.wrap (p64 - p63))), (13, iV r149.1), (14, iV r149.2), (56, .bool (r149.2 == 2))], [], []⟩ (fg ⟨rfl, rfl, rfl, rfl, rfl, rfl, rfl, rfl, rfl, rfl, rfl, tv⟩ tv) (iteJ (cb := (r149.2 == 2)) (fun S => ∃ p157 : List DLease, ∃ p158 : Int, ∃ p159 : Int, S = ⟨[(0, .own 2097152 0 4 (p157.map eDLease)), (1, iV p63), (2, iV p64), (3, iV p148), (4, .clo f4 k4), (10, .bool p66), (11, .bool p67), (12, iV (IntKind.i64.wrap (p64 - p63))), (13, iV p158), (14, iV p159)], [], []⟩ ∧ g137_j1 is4 rc137 p63 p64 p66 p67 p148 p157 p158 p159 = some o1) rfl ?_ (fun c203 J202 => ?_) (fun c203 J202 => ?_))))))))))))))))))))))))
     ·rintro _ ⟨p157, p158, p159, rfl, h1⟩
      refine wk_ ⟨[(0, .own 2097152 0 4 (p157.map eDLease)), (1, iV p63), (2, iV p64), (3, iV p148), (4, .clo f4 k4), (10, .bool p66), (11, .bool p67), (12, iV (IntKind.i64.wrap (p64 - p63))), (13, iV p158), (14, iV p159)], [], []⟩ (fg ⟨rfl, rfl, rfl, rfl, rfl, rfl, rfl, rfl, rfl, rfl, tv⟩ tv) (seq_ (seq_ (reg_ (st (mv_ rfl tv (st (mv_ rfl tv (st (pg_ (u := .bool p67) rfl (fun hg => (cmv (v := .bool p67) rfl tv)) (st (pick_ rfl rfl rfl (fun h => eqt h) tv rfl (st (mv_ rfl tv (st (pg_ (u := iV p159) rfl (fun hg => (cmv (v := iV p159) rfl tv)) (st (pg_ (u := .bool (p159 == 1)) rfl (fun hg => (cp_ ⟨(fun _ => hg), tv, tv⟩ rfl tv)) (st (pick_ rfl rfl rfl (fun h => eqt h) tv rfl (oe_ (wk_ ⟨[(0, .own 2097152 0 4 (p157.map eDLease)), (1, iV p63), (2, iV p64), (3, iV p148), (4, .clo f4 k4), (10, .bool p66), (11, .bool p67), (12, iV (IntKind.i64.wrap (p64 - p63))), (13, iV p158), (75, .bool (bif (bif p66 then p67 else false) then (p159 == 1) else false))], [], []⟩ (fg ⟨rfl, rfl, rfl, rfl, rfl, rfl, rfl, rfl, rfl, rfl, tv⟩ tv) (iteJ (cb := (bif (bif p66 then p67 else false) then (p159 == 1) else false)) (fun S => ∃ p165 : List DLease, S = ⟨[(0, .own 2097152 0 4 (p165.map eDLease)), (1, iV p63), (2, iV p64), (3, iV p148), (4, .clo f4 k4), (10, .bool p66), (11, .bool p67), (12, iV (IntKind.i64.wrap (p64 - p63))), (13, iV p158)], [], []⟩ ∧ g137_j2 is4 rc137 p63 p64 p66 p67 p148 p158 p165 = some o1) rfl ?_ (fun c197 J196 => ?_) (fun c197 J196 => ?_)))))))))))))))))))))))
      ·rintro _ ⟨p165, rfl, h1⟩
       refine wk_ ⟨[(0, .own 2097152 0 4 (p165.map eDLease)), (1, iV p63), (2, iV p64), (3, iV p148), (4, .clo f4 k4), (10, .bool p66), (11, .bool p67), (12, iV (IntKind.i64.wrap (p64 - p63))), (13, iV p158)], [], []⟩ (fg ⟨rfl, rfl, rfl, rfl, rfl, rfl, rfl, rfl, rfl, tv⟩ tv) (seq_ (seq_ ?_))
       obtain ⟨y166, e167, h1⟩ := bnd h1
       obtain ⟨y168, e169, h1⟩ := bnd h1
       obtain ⟨y170, e171, h1⟩ := bnd h1
       obtain ⟨y172, e173, h1⟩ := bnd h1
       obtain ⟨r174, e175, h1⟩ := bnd h1
       refine draw_ (dtake tv (mv_ rfl tv (⟨tv, (dtake tv (c_ (cp_ t3 rfl tv) (⟨tv, (dtake tv (mv_ rfl tv (⟨tv, (dtake tv (pg_ (u := .clo f4 k4) rfl (fun hg => (cmv (v := .clo f4 k4) rfl tv)) (⟨tv, (dtake tv (pg_ (u := .own 2097152 0 4 (p165.map eDLease)) rfl (fun hg => (cmv (v := .own 2097152 0 4 (p165.map eDLease)) rfl tv)) (⟨tv, (dtake tv (pg_ (u := iV p63) rfl (fun hg => (cmv (v := iV p63) rfl tv)) (⟨tv, (dtake tv (pg_ (u := iV (IntKind.i64.wrap (p63 - 1))) rfl (fun hg => (cp_ ⟨(fun _ => hg), tv, tv⟩ rfl tv)) (⟨tv, (dtake tv (pg_ (u := .optr 2097152 4 (0 + ((IntKind.i64.wrap (p63 - 1)).toNat)) 0) rfl (fun hg => (cidxO (e := eDLease) (y := y166) rfl rfl (fun _ => hg) rfl rfl (fun _ => hg) (ip hg e167))) (⟨tv, (dtakeO (pg_ (u := .agg (eDLease y168)) rfl (fun hg => (cloadO (e := eDLease) (y := y168) (v := .agg (eDLease y168)) rfl rfl (fun _ => hg) rfl rfl (ip hg e169) rfl (nl rfl) rfl)) (⟨⟨(againg (v := .agg (eDLease y168)) rfl (fun hg => (cloadO (e := eDLease) (y := y168) (v := .agg (eDLease y168)) rfl rfl (fun _ => hg) rfl rfl (ip hg e169) rfl (nl rfl) rfl)) rfl), tv⟩, (dtake tv (pg_ (u := .own 2097152 0 4 (p165.map eDLease)) rfl (fun hg => (cmv (v := .own 2097152 0 4 (p165.map eDLease)) rfl tv)) (⟨⟨(againg (v := .agg (eDLease y168)) rfl (fun hg => (cloadO (e := eDLease) (y := y168) (v := .agg (eDLease y168)) rfl rfl (fun _ => hg) rfl rfl (ip hg e169) rfl (nl rfl) rfl)) rfl), tv⟩, (dtake tv (pg_ (u := iV p158) rfl (fun hg => (cmv (v := iV p158) rfl tv)) (⟨⟨(againg (v := .agg (eDLease y168)) rfl (fun hg => (cloadO (e := eDLease) (y := y168) (v := .agg (eDLease y168)) rfl rfl (fun _ => hg) rfl rfl (ip hg e169) rfl (nl rfl) rfl)) rfl), tv⟩, (dtake tv (pg_ (u := .optr 2097152 4 (0 + p158.toNat) 0) rfl (fun hg => (cidxO (e := eDLease) (y := y170) rfl rfl (fun _ => hg) rfl rfl (fun _ => hg) (ip hg e171))) (⟨⟨(againg (v := .agg (eDLease y168)) rfl (fun hg => (cloadO (e := eDLease) (y := y168) (v := .agg (eDLease y168)) rfl rfl (fun _ => hg) rfl rfl (ip hg e169) rfl (nl rfl) rfl)) rfl), tv⟩, (dtakeO (pg_ (u := .agg (eDLease y172)) rfl (fun hg => (cloadO (e := eDLease) (y := y172) (v := .agg (eDLease y172)) rfl rfl (fun _ => hg) rfl rfl (ip hg e173) rfl (nl rfl) rfl)) (⟨⟨(againg (v := .agg (eDLease y172)) rfl (fun hg => (cloadO (e := eDLease) (y := y172) (v := .agg (eDLease y172)) rfl rfl (fun _ => hg) rfl rfl (ip hg e173) rfl (nl rfl) rfl)) rfl), (againg (v := .agg (eDLease y168)) rfl (fun hg => (cloadO (e := eDLease) (y := y168) (v := .agg (eDLease y168)) rfl rfl (fun _ => hg) rfl rfl (ip hg e169) rfl (nl rfl) rfl)) rfl), tv⟩, (dalt (callvg_ (r := iV r174) rfl rfl rfl (fun hg => hg) false (fun hg => hf4 _ _ r174 (ip hg e175)) ⟨(fun hg => hg), (fun hg => hg), tv⟩ (fun _ => (and_ rfl (and_ rfl hs4.2.2.1))) (fun _ => (mapc1 rfl (mapc1 rfl (hs4.2.1 _ _ _ _ _)))) (fun _ => rfl) (fun h => nomatch h) (dkw ⟨[(0, .own 2097152 0 4 (p165.map eDLease)), (1, iV p63), (2, iV p64), (3, iV p148), (4, .clo f4 k4), (10, .bool p66), (11, .bool p67), (12, iV (IntKind.i64.wrap (p64 - p63))), (13, iV p158), (83, .bool (decide (p63 > 0))), (94, .may ((decide (p63 > 0)) == true) (iV r174))], [], []⟩ (fg ⟨rfl, rfl, rfl, rfl, rfl, rfl, rfl, rfl, rfl, rfl, rfl, tv⟩ tv) ⟨[], tv, tv, (dtake tv (pg_ (u := .bool (decide (r174 < 0))) rfl (fun hg => (cp_ ⟨(fun _ => hg), tv, tv⟩ rfl tv)) (⟨tv, ?_⟩)))⟩)) dstop)⟩)))⟩)))⟩)))⟩)))⟩)))⟩)))⟩)))⟩)))⟩)))⟩)))⟩)))⟩)))⟩)))
       refine dtake tv (pg_ (u := .bool (!(decide (r174 < 0)))) rfl (fun hg => (cp_ ⟨(fun _ => hg), tv⟩ rfl tv)) (⟨tv, (dtake tv (pick_ rfl rfl rfl (fun h => eqt h) tv rfl (⟨tv, (dfin (wk_ ⟨[(0, .own 2097152 0 4 (p165.map eDLease)), (1, iV p63), (2, iV p64), (3, iV p148), (4, .clo f4 k4), (10, .bool p66), (11, .bool p67), (12, iV (IntKind.i64.wrap (p64 - p63))), (13, iV p158), (97, .bool (bif (decide (p63 > 0)) then (!(decide (r174 < 0))) else false))], [], []⟩ (fg ⟨rfl, rfl, rfl, rfl, rfl, rfl, rfl, rfl, rfl, rfl, tv⟩ tv) (ite_ (cb := (bif (decide (p63 > 0)) then (!(decide (r174 < 0))) else false)) rfl (fun c176 => ?_) (fun c176 => ?_))))⟩)))⟩))
       ·replace h1 := ip c176 h1
        refine seq_ (reg_ (st (mv_ rfl tv (st (mv_ rfl tv (st (mv_ rfl tv (st (mv_ rfl tv (st (mv_ rfl tv ?_)))))))))))
        obtain ⟨r177, e178, h1⟩ := bnd h1
        obtain ⟨c179, h1⟩ := grd h1
        refine st (call1_ [] [2097152] [] false (H154 p165 p63 p64 p158 f4 k4 is4 hs4 hf4 r177 e178) ⟨tv, tv, tv, tv, tv, tv⟩ (by kernel_rfl) (congrArg (fun z => Give.mk z []) (mapc1 rfl (mapc1 rfl (mapc1 rfl (mapc1 rfl (mapc1 (clo_sh hs4) rfl)))))) (by kernel_rfl) (by kernel_rfl) (fun _ => and_ rfl (and_ (fl2 (fun _ => rfl)) rfl)) (sw ⟨[(0, .own 2097152 0 4 (r177.2.map eDLease)), (2, iV p64), (3, iV p148), (4, .clo f4 k4), (10, .bool p66), (11, .bool p67), (103, iV r177.1)], [], []⟩ (fg ⟨(congrArg (fun z => some ((z : V))) (row_eq c179)), rfl, rfl, rfl, rfl, rfl, rfl, tv⟩ tv) (mv_ rfl tv (oe_ (wk_ ⟨[(0, .own 2097152 0 4 (r177.2.map eDLease)), (2, iV p64), (3, iV p148), (4, .clo f4 k4), (10, .bool p66), (11, .bool p67), (15, iV r177.1)], [], []⟩ (fg ⟨rfl, rfl, rfl, rfl, rfl, rfl, rfl, tv⟩ tv) (seq_ (reg_ (st (mv_ rfl tv (st (mv_ rfl tv (oe_ (wk_ ⟨[(0, .own 2097152 0 4 (r177.2.map eDLease)), (1, iV r177.1), (2, iV p64), (3, iV p148), (4, .clo f4 k4), (10, .bool p66), (11, .bool p67)], [], []⟩ (fg ⟨rfl, rfl, rfl, rfl, rfl, rfl, rfl, tv⟩ tv) (ex_ rfl ?_))))))))))))))
        obtain rfl := Option.some.inj h1
        exact hK1 _ rfl _ ⟨[(0, .own 2097152 0 4 (r177.2.map eDLease)), (1, iV r177.1), (2, iV p64), (3, iV p148), (4, .clo f4 k4), (10, .bool p66), (11, .bool p67)], [], []⟩ (fg ⟨rfl, rfl, rfl, rfl, rfl, rfl, rfl, tv⟩ tv) rfl
       ·replace h1 := inb c176 h1
        refine sk_ (wk_ ⟨[(0, .own 2097152 0 4 (p165.map eDLease)), (1, iV p63), (2, iV p64), (3, iV p148), (4, .clo f4 k4), (12, iV (IntKind.i64.wrap (p64 - p63))), (13, iV p158)], [], []⟩ (fg ⟨rfl, rfl, rfl, rfl, rfl, rfl, rfl, tv⟩ tv) (seq_ (reg_ (st (mv_ rfl tv (st (mv_ rfl tv (st (mv_ rfl tv (st (mv_ rfl tv (st (mv_ rfl tv ?_)))))))))))))
        obtain ⟨r180, e181, h1⟩ := bnd h1
        obtain ⟨c182, h1⟩ := grd h1
        refine st (call1_ [] [2097152] [] false (H155 p165 p63 p64 p158 f4 k4 is4 hs4 hf4 r180 e181) ⟨tv, tv, tv, tv, tv, tv⟩ (by kernel_rfl) (congrArg (fun z => Give.mk z []) (mapc1 rfl (mapc1 rfl (mapc1 rfl (mapc1 rfl (mapc1 (clo_sh hs4) rfl)))))) (by kernel_rfl) (by kernel_rfl) (fun _ => and_ rfl (and_ (fl2 (fun _ => rfl)) rfl)) (sw ⟨[(0, .own 2097152 0 4 (r180.2.2.map eDLease)), (1, iV p63), (2, iV p64), (3, iV p148), (4, .clo f4 k4), (12, iV (IntKind.i64.wrap (p64 - p63))), (111, .tup [iV r180.1, .bool r180.2.1])], [], []⟩ (fg ⟨(congrArg (fun z => some ((z : V))) (row_eq c182)), rfl, rfl, rfl, rfl, rfl, rfl, tv⟩ tv) (mv_ rfl tv (st (c_ (cp_ ⟨tv, tv⟩ rfl tv) (st (c_ (cp_ ⟨tv, tv⟩ rfl tv) (st (mv_ rfl tv (st (mv_ rfl tv (oe_ (wk_ ⟨[(0, .own 2097152 0 4 (r180.2.2.map eDLease)), (1, iV p63), (2, iV p64), (3, iV p148), (4, .clo f4 k4), (12, iV (IntKind.i64.wrap (p64 - p63))), (16, iV r180.1), (17, .bool r180.2.1)], [], []⟩ (fg ⟨rfl, rfl, rfl, rfl, rfl, rfl, rfl, rfl, tv⟩ tv) (seq_ (reg_ (st (mv_ rfl tv (st (mv_ rfl tv (oe_ (wk_ ⟨[(0, .own 2097152 0 4 (r180.2.2.map eDLease)), (1, iV p63), (2, iV p64), (3, iV p148), (4, .clo f4 k4), (11, .bool r180.2.1), (12, iV (IntKind.i64.wrap (p64 - p63))), (16, iV r180.1)], [], []⟩ (fg ⟨rfl, rfl, rfl, rfl, rfl, rfl, rfl, rfl, tv⟩ tv) (seq_ (reg_ (st (mv_ rfl tv (st (mv_ rfl tv (st (c_ (cp_ t3 rfl tv) (st (mv_ rfl tv (st (mv_ rfl tv (st (c_ (cp_ t3 rfl tv) (st (mv_ rfl tv (st (mv_ rfl tv (oe_ (wk_ ⟨[(0, .own 2097152 0 4 (r180.2.2.map eDLease)), (1, iV p63), (2, iV p64), (3, iV p148), (4, .clo f4 k4), (11, .bool r180.2.1), (12, iV (IntKind.i64.wrap (p64 - p63))), (16, iV r180.1), (18, iV (IntKind.i64.wrap (r180.1 - p63))), (19, iV (IntKind.i64.wrap (p64 - r180.1)))], [], []⟩ (fg ⟨rfl, rfl, rfl, rfl, rfl, rfl, rfl, rfl, rfl, rfl, tv⟩ tv) (seq_ (reg_ (st (mv_ rfl tv (st (c_ (cp_ ⟨tv, tv, tv⟩ rfl (by decide)) (st (mv_ rfl tv ?_)))))))))))))))))))))))))))))))))))))))))))))))))
        refine oe_ (wk_ ⟨[(0, .own 2097152 0 4 (r180.2.2.map eDLease)), (1, iV p63), (2, iV p64), (3, iV p148), (4, .clo f4 k4), (11, .bool r180.2.1), (16, iV r180.1), (18, iV (IntKind.i64.wrap (r180.1 - p63))), (19, iV (IntKind.i64.wrap (p64 - r180.1))), (20, iV (IntKind.i64.wrap (((IntKind.i64.wrap (p64 - p63))).tdiv 8)))], [], []⟩ (fg ⟨rfl, rfl, rfl, rfl, rfl, rfl, rfl, rfl, rfl, rfl, tv⟩ tv) (seq_ (reg_ (st (mv_ rfl tv (st (mv_ rfl tv (st (c_ (cp_ t3 rfl tv) (oe_ ?_))))))))))
        obtain ⟨v183, e184, h1⟩ := bl h1
        refine wk_ ⟨[(0, .own 2097152 0 4 (r180.2.2.map eDLease)), (1, iV p63), (2, iV p64), (3, iV p148), (4, .clo f4 k4), (11, .bool r180.2.1), (16, iV r180.1), (18, iV (IntKind.i64.wrap (r180.1 - p63))), (19, iV (IntKind.i64.wrap (p64 - r180.1))), (20, iV (IntKind.i64.wrap (((IntKind.i64.wrap (p64 - p63))).tdiv 8))), (125, .bool v183)], [], []⟩ (fg ⟨(by subst e184; rfl), (by subst e184; rfl), (by subst e184; rfl), (by subst e184; rfl), (by subst e184; rfl), (by subst e184; rfl), (by subst e184; rfl), (by subst e184; rfl), (by subst e184; rfl), (by subst e184; rfl), (by subst e184; rfl), tv⟩ tv) (ite_ (cb := v183) rfl (fun c185 => ?_) (fun c185 => ?_))
        ·replace h1 := ip c185 h1
         refine seq_ (reg_ (st (mv_ rfl tv (st (mv_ rfl tv (st (c_ (cp_ t3 rfl tv) (st (mv_ rfl tv (oe_ ?_))))))))))
         obtain ⟨v186, e187, h1⟩ := bl h1
         refine wk_ ⟨[(0, .own 2097152 0 4 (r180.2.2.map eDLease)), (1, iV p63), (2, iV p64), (3, iV p148), (4, .clo f4 k4), (10, .bool v186), (11, .bool r180.2.1), (16, iV r180.1)], [], []⟩ (fg ⟨(by subst e187; rfl), (by subst e187; rfl), (by subst e187; rfl), (by subst e187; rfl), (by subst e187; rfl), (by subst e187; rfl), (by subst e187; rfl), (by subst e187; rfl), tv⟩ tv) (seq_ (reg_ (st (mv_ rfl tv (st (mv_ rfl tv (st (mv_ rfl tv (st (mv_ rfl tv (st (mv_ rfl tv ?_))))))))))))
         obtain ⟨r188, e189, h1⟩ := bnd h1
         obtain ⟨c190, h1⟩ := grd h1
         refine st (call1_ [] [2097152] [] false (R137 r180.2.2 p63 r180.1 p148 f4 k4 is4 hs4 hf4 r188 e189) ⟨tv, tv, tv, tv, tv, tv⟩ (by kernel_rfl) (congrArg (fun z => Give.mk z []) (mapc1 rfl (mapc1 rfl (mapc1 rfl (mapc1 rfl (mapc1 (clo_sh hs4) rfl)))))) (by kernel_rfl) (by kernel_rfl) (fun _ => and_ rfl (and_ (fl2 (fun _ => rfl)) rfl)) (oe_ (wk_ ⟨[(0, .own 2097152 0 4 (r188.map eDLease)), (2, iV p64), (3, iV p148), (4, .clo f4 k4), (10, .bool v186), (11, .bool r180.2.1), (16, iV r180.1)], [], []⟩ (fg ⟨(congrArg (fun z => some ((z : V))) (row_eq c190)), rfl, rfl, rfl, rfl, rfl, rfl, tv⟩ tv) (reg_ (st (mv_ rfl tv (st (c_ (cp_ t3 rfl tv) (st (mv_ rfl tv (oe_ (bn_ ?_))))))))))))
         obtain rfl := Option.some.inj h1
         exact hK1 _ rfl _ ⟨[(0, .own 2097152 0 4 (r188.map eDLease)), (1, iV (IntKind.i64.wrap (r180.1 + 1))), (2, iV p64), (3, iV p148), (4, .clo f4 k4), (10, .bool v186), (11, .bool r180.2.1)], [], []⟩ (fg ⟨rfl, rfl, rfl, rfl, rfl, rfl, rfl, tv⟩ tv) rfl
        ·replace h1 := inb c185 h1
         refine seq_ (reg_ (st (mv_ rfl tv (st (mv_ rfl tv (st (c_ (cp_ t3 rfl tv) (st (mv_ rfl tv (oe_ ?_))))))))))
         obtain ⟨v191, e192, h1⟩ := bl h1
         refine wk_ ⟨[(0, .own 2097152 0 4 (r180.2.2.map eDLease)), (1, iV p63), (2, iV p64), (3, iV p148), (4, .clo f4 k4), (10, .bool v191), (11, .bool r180.2.1), (16, iV r180.1)], [], []⟩ (fg ⟨(by subst e192; rfl), (by subst e192; rfl), (by subst e192; rfl), (by subst e192; rfl), (by subst e192; rfl), (by subst e192; rfl), (by subst e192; rfl), (by subst e192; rfl), tv⟩ tv) (seq_ (reg_ (st (mv_ rfl tv (st (mv_ rfl tv (st (c_ (cp_ t3 rfl tv) (st (mv_ rfl tv (st (mv_ rfl tv (st (mv_ rfl tv ?_))))))))))))))
         obtain ⟨r193, e194, h1⟩ := bnd h1
         obtain ⟨c195, h1⟩ := grd h1
         refine st (call1_ [] [2097152] [] false (R137 r180.2.2 (IntKind.i64.wrap (r180.1 + 1)) p64 p148 f4 k4 is4 hs4 hf4 r193 e194) ⟨tv, tv, tv, tv, tv, tv⟩ (by kernel_rfl) (congrArg (fun z => Give.mk z []) (mapc1 rfl (mapc1 rfl (mapc1 rfl (mapc1 rfl (mapc1 (clo_sh hs4) rfl)))))) (by kernel_rfl) (by kernel_rfl) (fun _ => and_ rfl (and_ (fl2 (fun _ => rfl)) rfl)) (oe_ (wk_ ⟨[(0, .own 2097152 0 4 (r193.map eDLease)), (1, iV p63), (3, iV p148), (4, .clo f4 k4), (10, .bool v191), (11, .bool r180.2.1), (16, iV r180.1)], [], []⟩ (fg ⟨(congrArg (fun z => some ((z : V))) (row_eq c195)), rfl, rfl, rfl, rfl, rfl, rfl, tv⟩ tv) (reg_ (st (mv_ rfl tv (st (mv_ rfl tv (oe_ (bn_ ?_))))))))))
         obtain rfl := Option.some.inj h1
         exact hK1 _ rfl _ ⟨[(0, .own 2097152 0 4 (r193.map eDLease)), (1, iV p63), (2, iV r180.1), (3, iV p148), (4, .clo f4 k4), (10, .bool v191), (11, .bool r180.2.1)], [], []⟩ (fg ⟨rfl, rfl, rfl, rfl, rfl, rfl, rfl, tv⟩ tv) rfl
      ·replace h1 := ip c197 h1
       refine seq_ (reg_ (st (mv_ rfl tv (st (mv_ rfl tv (st (mv_ rfl tv (st (mv_ rfl tv ?_)))))))))
       obtain ⟨r198, e199, h1⟩ := bnd h1
       obtain ⟨c200, h1⟩ := grd h1
       refine st (call1_ [] [2097152] [] false (H153 p157 p63 p64 f4 k4 is4 hs4 hf4 r198 e199) ⟨tv, tv, tv, tv, tv⟩ (by kernel_rfl) (congrArg (fun z => Give.mk z []) (mapc1 rfl (mapc1 rfl (mapc1 rfl (mapc1 (clo_sh hs4) rfl))))) (by kernel_rfl) (by kernel_rfl) (fun _ => and_ rfl (and_ (fl2 (fun _ => rfl)) rfl)) (oe_ (wk_ ⟨[(0, .own 2097152 0 4 (r198.2.map eDLease)), (1, iV p63), (2, iV p64), (3, iV p148), (4, .clo f4 k4), (10, .bool p66), (11, .bool p67), (12, iV (IntKind.i64.wrap (p64 - p63))), (13, iV p158), (80, .bool r198.1)], [], []⟩ (fg ⟨(congrArg (fun z => some ((z : V))) (row_eq c200)), rfl, rfl, rfl, rfl, rfl, rfl, rfl, rfl, rfl, tv⟩ tv) (ite_ (cb := r198.1) rfl (fun c201 => ?_) (fun c201 => ?_)))))
       ·replace h1 := ip c201 h1
        obtain rfl := Option.some.inj h1
        obtain rfl := hx1 _ rfl
        obtain rfl := Option.some.inj h0
        exact rt_ (hR1 _ (ret_ rfl rfl rfl rfl rfl ⟨⟨rfl, mlen (fun _ => rfl)⟩, tv⟩))
       ·replace h1 := inb c201 h1
        refine sk_ ?_
        exact J196 _ ⟨[(0, .own 2097152 0 4 (r198.2.map eDLease)), (1, iV p63), (2, iV p64), (3, iV p148), (4, .clo f4 k4), (10, .bool p66), (11, .bool p67), (12, iV (IntKind.i64.wrap (p64 - p63))), (13, iV p158)], [], []⟩ (fg ⟨rfl, rfl, rfl, rfl, rfl, rfl, rfl, rfl, rfl, tv⟩ tv) ⟨_, rfl, h1⟩
      ·replace h1 := inb c197 h1
       refine sk_ ?_
       exact J196 _ ⟨[(0, .own 2097152 0 4 (p157.map eDLease)), (1, iV p63), (2, iV p64), (3, iV p148), (4, .clo f4 k4), (10, .bool p66), (11, .bool p67), (12, iV (IntKind.i64.wrap (p64 - p63))), (13, iV p158)], [], []⟩ (fg ⟨rfl, rfl, rfl, rfl, rfl, rfl, rfl, rfl, rfl, tv⟩ tv) ⟨_, rfl, h1⟩
     ·replace h1 := ip c203 h1
      refine seq_ (reg_ (st (mv_ rfl tv (st (mv_ rfl tv (st (mv_ rfl tv (st (mv_ rfl tv ?_)))))))))
      obtain ⟨r204, e205, h1⟩ := bnd h1
      obtain ⟨c206, h1⟩ := grd h1
      refine st (call1_ [] [2097152] [] false (H152 p147 p63 p64 f4 k4 is4 hs4 hf4 r204 e205) ⟨tv, tv, tv, tv, tv⟩ (by kernel_rfl) (congrArg (fun z => Give.mk z []) (mapc1 rfl (mapc1 rfl (mapc1 rfl (mapc1 (clo_sh hs4) rfl))))) (by kernel_rfl) (by kernel_rfl) (fun _ => and_ rfl (and_ (fl2 (fun _ => rfl)) rfl)) (oe_ (wk_ ⟨[(0, .own 2097152 0 4 (r204.map eDLease)), (1, iV p63), (2, iV p64), (3, iV p148), (4, .clo f4 k4), (10, .bool p66), (11, .bool p67), (12, iV (IntKind.i64.wrap (p64 - p63))), (13, iV r149.1)], [], []⟩ (fg ⟨(congrArg (fun z => some ((z : V))) (row_eq c206)), rfl, rfl, rfl, rfl, rfl, rfl, rfl, rfl, tv⟩ tv) (seq_ (reg_ (st (mv_ rfl tv (st (c_ (cp_ t3 rfl tv) (st (mv_ rfl tv (st (mv_ rfl tv (st (c_ (cp_ t3 rfl tv) (st (c_ (cp_ t3 rfl tv) (st (mv_ rfl tv (oe_ ?_))))))))))))))))))))
      obtain ⟨v207, e208, h1⟩ := bl h1
      refine wk_ ⟨[(0, .own 2097152 0 4 (r204.map eDLease)), (1, iV p63), (2, iV p64), (3, iV p148), (4, .clo f4 k4), (10, .bool p66), (11, .bool p67), (12, iV (IntKind.i64.wrap (p64 - p63))), (13, iV v207)], [], []⟩ (fg ⟨(by subst e208; rfl), (by subst e208; rfl), (by subst e208; rfl), (by subst e208; rfl), (by subst e208; rfl), (by subst e208; rfl), (by subst e208; rfl), (by subst e208; rfl), (by subst e208; rfl), tv⟩ tv) (reg_ (st (mvc_ tv (oe_ ?_))))
      exact J202 _ ⟨[(0, .own 2097152 0 4 (r204.map eDLease)), (1, iV p63), (2, iV p64), (3, iV p148), (4, .clo f4 k4), (10, .bool p66), (11, .bool p67), (12, iV (IntKind.i64.wrap (p64 - p63))), (13, iV v207), (14, iV 1)], [], []⟩ (fg ⟨rfl, rfl, rfl, rfl, rfl, rfl, rfl, rfl, rfl, rfl, tv⟩ tv) ⟨_, _, _, rfl, h1⟩
     ·replace h1 := inb c203 h1
      refine sk_ ?_
      exact J202 _ ⟨[(0, .own 2097152 0 4 (p147.map eDLease)), (1, iV p63), (2, iV p64), (3, iV p148), (4, .clo f4 k4), (10, .bool p66), (11, .bool p67), (12, iV (IntKind.i64.wrap (p64 - p63))), (13, iV r149.1), (14, iV r149.2)], [], []⟩ (fg ⟨rfl, rfl, rfl, rfl, rfl, rfl, rfl, rfl, rfl, rfl, tv⟩ tv) ⟨_, _, _, rfl, h1⟩
    ·replace h1 := ip c210 h1
     refine seq_ (reg_ (st (mv_ rfl tv (st (mv_ rfl tv (st (mv_ rfl tv (st (mv_ rfl tv ?_)))))))))
     obtain ⟨r211, e212, h1⟩ := bnd h1
     obtain ⟨c213, h1⟩ := grd h1
     refine st (call1_ [] [2097152] [] false (H150 p62 p63 p64 f4 k4 is4 hs4 hf4 r211 e212) ⟨tv, tv, tv, tv, tv⟩ (by kernel_rfl) (congrArg (fun z => Give.mk z []) (mapc1 rfl (mapc1 rfl (mapc1 rfl (mapc1 (clo_sh hs4) rfl))))) (by kernel_rfl) (by kernel_rfl) (fun _ => and_ rfl (and_ (fl2 (fun _ => rfl)) rfl)) (oe_ (wk_ ⟨[(0, .own 2097152 0 4 (r211.map eDLease)), (1, iV p63), (2, iV p64), (3, iV p65), (4, .clo f4 k4), (10, .bool p66), (11, .bool p67), (12, iV (IntKind.i64.wrap (p64 - p63)))], [], []⟩ (fg ⟨(congrArg (fun z => some ((z : V))) (row_eq c213)), rfl, rfl, rfl, rfl, rfl, rfl, rfl, tv⟩ tv) (reg_ (st (mv_ rfl tv (st (c_ (cp_ t3 rfl tv) (st (mv_ rfl tv (oe_ ?_)))))))))))
     exact J209 _ ⟨[(0, .own 2097152 0 4 (r211.map eDLease)), (1, iV p63), (2, iV p64), (3, iV (IntKind.i64.wrap (p65 - 1))), (4, .clo f4 k4), (10, .bool p66), (11, .bool p67), (12, iV (IntKind.i64.wrap (p64 - p63)))], [], []⟩ (fg ⟨rfl, rfl, rfl, rfl, rfl, rfl, rfl, rfl, tv⟩ tv) ⟨_, _, rfl, h1⟩
    ·replace h1 := inb c210 h1
     refine sk_ ?_
     exact J209 _ ⟨[(0, .own 2097152 0 4 (p62.map eDLease)), (1, iV p63), (2, iV p64), (3, iV p65), (4, .clo f4 k4), (10, .bool p66), (11, .bool p67), (12, iV (IntKind.i64.wrap (p64 - p63)))], [], []⟩ (fg ⟨rfl, rfl, rfl, rfl, rfl, rfl, rfl, rfl, tv⟩ tv) ⟨_, _, rfl, h1⟩

/- slices.SortFunc[[]loop.example/g00149/impl.Lease,loop.example/g00149/impl.Lease] -/
def c116_r0 : List Ins := [(iQ 5 (.mv (.t 0))),
(iQ 6 (.len (.t 5))),
(iQ 4 (.mv (.t 6)))]
def c116_r1 : List Ins := [(iQ 7 (.mv (.t 0))),
(iQ 8 (.mv (.t 4))),
(iQ 9 (.mv (.t 4))),
(iQ 10 (.conv .u64 (.t 9))),
⟨some 11, .call 138 [(.t 10)], none⟩,
(iQ 12 (.mv (.t 1))),
⟨some 13, .call 137 [(.t 7), (.c (iV 0)), (.t 8), (.t 11), (.t 12)], none⟩]
def c116 : XFn := { np := 2, nt := 14, res := [], body := (.seq (.reg c116_r0) (.reg c116_r1)) }
def K116 (C : CRel) : Prop := ∀ (a0 : List DLease) (f1 : Nat) (k1 : List V) (is1 : DLease → DLease → Option Int) (hs1 : Shut k1) (hf1 : ∀ (x0 : DLease) (x1 : DLease) r, is1 x0 x1 = some r → C f1 ⟨.agg (eDLease x0) :: .agg (eDLease x1) :: k1, []⟩ ⟨iV r, [], []⟩) (r : (List DLease)), g116 a0 is1 = some r → C 116 ⟨[.own 2097152 0 4 (a0.map eDLease), .clo f1 k1], []⟩ ⟨.tup [], [], [(0, 4, r.map eDLease)]⟩
theorem F116 {C : CRel} (H137 : K137 C) (H138 : K138 C) (a0 : List DLease) (f1 : Nat) (k1 : List V) (is1 : DLease → DLease → Option Int) (hs1 : Shut k1) (hf1 : ∀ (x0 : DLease) (x1 : DLease) r, is1 x0 x1 = some r → C f1 ⟨.agg (eDLease x0) :: .agg (eDLease x1) :: k1, []⟩ ⟨iV r, [], []⟩) (r : (List DLease)) (h0 : g116 a0 is1 = some r) : FnOK C c116 ⟨[.own 2097152 0 4 (a0.map eDLease), .clo f1 k1], []⟩ ⟨.tup [], [], [(0, 4, r.map eDLease)]⟩ := by
 refine fn_ (nl rfl) (seq_ (reg_ (st (mv_ rfl tv (st (c_ (clenO (e := eDLease) (l0 := a0) rfl rfl tv) (st (mv_ rfl tv (oe_ (wk_ ⟨[(0, .own 2097152 0 4 (a0.map eDLease)), (1, .clo f1 k1), (4, iV (a0.length : Int))], [], []⟩ (fg ⟨rfl, rfl, rfl, tv⟩ tv) (reg_ (st (mv_ rfl tv (st (mv_ rfl tv (st (mv_ rfl tv (st (c_ (cp_ ⟨tv, tv⟩ rfl tv) ?_)))))))))))))))))))
 obtain ⟨r1, e2, h0⟩ := bnd h0
 refine st (call0_ (r := iV r1) false (H138 (IntKind.u64.wrap (a0.length : Int)) r1 e2) ⟨tv, tv⟩ rfl rfl (fun _ => rfl) (st (mv_ rfl tv ?_)))
 obtain ⟨r3, e4, h0⟩ := bnd h0
 obtain ⟨c5, h0⟩ := grd h0
 refine sw ⟨[(0, .own 2097152 0 4 (a0.map eDLease)), (7, .own 2097152 0 4 (a0.map eDLease)), (8, iV (a0.length : Int)), (11, iV r1), (12, .clo f1 k1)], [], []⟩ (fg ⟨rfl, rfl, rfl, rfl, rfl, tv⟩ tv) (call1_ [] [2097152] [] false ((H137 fuel) a0 0 (a0.length : Int) r1 f1 k1 is1 hs1 hf1 r3 e4) ⟨tv, tv, tv, tv, tv, tv⟩ (by kernel_rfl) (congrArg (fun z => Give.mk z []) (mapc1 rfl (mapc1 rfl (mapc1 rfl (mapc1 rfl (mapc1 (clo_sh hs1) rfl)))))) (by kernel_rfl) (by kernel_rfl) (fun _ => and_ rfl (and_ (fl2 (fun _ => rfl)) rfl)) (oe_ ?_))
 obtain rfl := Option.some.inj h0
 exact retn_ (retf_ (S1 := ⟨[(0, .own 2097152 0 4 (r3.map eDLease)), (7, .own 2097152 0 4 (r3.map eDLease))], [], []⟩) (fg ⟨(congrArg (fun z => some ((z : V))) (row_eq c5)), (congrArg (fun z => some ((z : V))) (row_eq c5)), tv⟩ tv) (ret_ rfl rfl rfl rfl rfl ⟨⟨rfl, mlen (fun _ => rfl)⟩, tv⟩))

/- (loop.example/g00149/impl.Table).tick -/
def c82_r0 : List Ins := [⟨some 2, .box (.t 0), none⟩,
⟨some 4, .alloc [(iV 0), (iV 0), (.own 259 0 4 [])], none⟩,
⟨some 5, .nilS 1, none⟩]
def c82_r1 : List Ins := [(iQ 10 (.load (.t 2) 3 true)),
⟨some 11, .call 112 [(.t 10)], none⟩,
⟨some 6, .alloc [(iV 0), (iV 0), (.own 387 0 4 [])], none⟩,
⟨none, .store (.t 6) (.t 11) 3, none⟩]
def c82_r2 : List Ins := [(iQ 12 (.fieldA (.t 2) 0)),
(iQ 13 (.load (.t 12) 1 false)),
(iQ 14 (.mv (.t 1))),
(iQ 15 (.mx (.t 13) (.t 14))),
(iQ 16 (.fieldA (.t 6) 0)),
⟨none, .store (.t 16) (.t 15) 1, none⟩]
def c82_r3 : List Ins := [⟨some 7, .nilS 4, none⟩]
def c82_r4 : List Ins := [(iQ 17 (.fieldA (.t 6) 2)),
(iQ 18 (.load (.t 17) 1 false)),
(iQ 19 (.len (.t 18))),
⟨some 20, .p (.mv (.c (iV 0))), none⟩]
def c82_r5 : List Ins := [(iQ 21 (.bin .lss (.t 20) (.t 19)))]
def c82_r6 : List Ins := [(iQ 22 (.mv (.t 20))),
(iQ 23 (.idxA (.t 18) (.t 20) 4)),
(iQ 24 (.load (.t 23) 4 true)),
⟨some 9, .alloc [(iV 0), (iV 0), (iV 0), (.bool false)], none⟩,
(iQ 8 (.mv (.t 22))),
⟨none, .store (.t 9) (.t 24) 4, none⟩]
def c82_r7 : List Ins := [(iQ 25 (.fieldA (.t 9) 3)),
(iQ 26 (.load (.t 25) 1 false)),
(iQ 27 (.un .not (.t 26))),
(iQ 28 (.mv (.t 27))),
⟨some 29, .p (.fieldA (.t 9) 1), some (28, true)⟩,
⟨some 30, .p (.load (.t 29) 1 false), some (28, true)⟩,
⟨some 31, .p (.fieldA (.t 6) 0), some (28, true)⟩,
⟨some 32, .p (.load (.t 31) 1 false), some (28, true)⟩,
⟨some 33, .p (.bin .leq (.t 30) (.t 32)), some (28, true)⟩,
⟨some 34, .pick (.t 28) (.t 33) (.c (.bool false)), none⟩]
def c82_r8 : List Ins := [(iQ 35 (.fieldA (.t 6) 2)),
(iQ 36 (.load (.t 35) 1 false)),
(iQ 37 (.mv (.t 8))),
(iQ 38 (.idxA (.t 36) (.t 37) 4)),
(iQ 39 (.fieldA (.t 38) 3)),
⟨none, .store (.t 39) (.c (.bool true)) 1, none⟩]
def c82_r9 : List Ins := [(iQ 40 (.mv (.t 7))),
(iQ 41 (.load (.t 9) 4 true)),
⟨some 42, .mkS 4 [(iV 0), (iV 0), (iV 0), (.bool false)] 1 [(0, (.t 41))], none⟩,
⟨some 43, .app 4 32 (.t 40) (.t 42), none⟩,
(iQ 7 (.mv (.t 43)))]
def c82_r10 : List Ins := [⟨some 44, .p (.bin .add (.t 20) (.c (iV 1))), none⟩,
(iQ 20 (.mv (.t 44)))]
def c82_l0 : IR := (.seq (.reg c82_r5) (.seq (.ite (.t 21) .skip (.exit 0)) (.seq (.block 1 (.seq (.reg c82_r6) (.seq (.reg c82_r7) (.ite (.t 34) (.seq (.reg c82_r8) (.reg c82_r9)) .skip)))) (.reg c82_r10))))
def c82_r11 : List Ins := [(iQ 45 (.mv (.t 7))),
⟨some 46, .call 116 [(.t 45), (.c (.clo 69 []))], none⟩]
def c82_r12 : DP := (.take (iQ 47 (.load (.t 6) 3 true))
(.take (iQ 48 (.mv (.t 7)))
(.take ⟨some 49, .p (.build [(iV 0), (iV 0), (.own 3139 0 4 [])] [(2, 1, (.t 48))]), none⟩
(.alt [(iQ 47 (.load (.t 6) 3 true))] ⟨some 50, .call 60 [(.t 49)], none⟩
(.alt [] ⟨none, .store (.t 4) (.t 47) 3, none⟩
(.take (iQ 5 (.mv (.t 50)))
.fin)
.stop)
.stop))))
def c82 : XFn := { np := 2, nt := 51, res := [.cell 4 3 true, .t 5], body := (.seq (.reg c82_r0) (.seq (.reg c82_r1) (.seq (.reg c82_r2) (.seq (.reg c82_r3) (.seq (.seq (.reg c82_r4) (.block 0 (.loop c82_l0))) (.seq (.reg c82_r11) (.seq (.draw c82_r12) .ret))))))) }
def K82 (C : CRel) : Prop := ∀ (a0 : DTable) (a1 : Int) (r : DTable × (List Int)), g82 a0 a1 = some r → C 82 ⟨[.agg (eDTable a0), iV a1], []⟩ ⟨.tup [.agg [iV r.1.clock, iV r.1.next, .own 0 0 4 (r.1.list_.map eDLease)], .own 1 0 1 (r.2.map eI)], [], []⟩
theorem F82 {C : CRel} (H60 : K60 C) (H69 : K69 C) (H112 : K112 C) (H116 : K116 C) (a0 : DTable) (a1 : Int) (r : DTable × (List Int)) (h0 : g82 a0 a1 = some r) : FnOK C c82 ⟨[.agg (eDTable a0), iV a1], []⟩ ⟨.tup [.agg [iV r.1.clock, iV r.1.next, .own 0 0 4 (r.1.list_.map eDLease)], .own 1 0 1 (r.2.map eI)], [], []⟩ := by
 refine fn_ (nl rfl) (seq_ (reg_ (st (box_ rfl tv rfl (st (alloc_ (st (nilS_ (oe_ (wk_ ⟨[(1, iV a1), (2, .ptr 128 0), (4, .ptr 256 0)], [(128, [iV a0.clock, iV a0.next, .lst 4 (a0.list_.map eDLease)]), (256, [iV 0, iV 0, .own 259 0 4 (([] : List DLease).map eDLease)])], []⟩ (fgk (by kernel_rfl)) (seq_ (reg_ (st (c_ (v := .agg (eDTable a0)) (cp_ ⟨tv, tv⟩ rfl (nl rfl)) ?_))))))))))))))
 obtain ⟨r1, e2, h0⟩ := bnd h0
 refine st (call0_ (r := .agg [iV r1.clock, iV r1.next, .own 0 0 4 (r1.list_.map eDLease)]) false (H112 a0 r1 e2) ⟨tv, tv⟩ rfl rfl (fun _ => (and_ rfl (and_ rfl (and_ (fl1 (fun _ => rfl)) rfl)))) (st (alloc_ (st (stp_ rfl rfl tv rfl rfl rfl (nl rfl) (oe_ (wk_ ⟨[(1, iV a1), (2, .ptr 128 0), (4, .ptr 256 0), (6, .ptr 384 0)], [(128, [iV a0.clock, iV a0.next, .lst 4 (a0.list_.map eDLease)]), (256, [iV 0, iV 0, .own 259 0 4 (([] : List DLease).map eDLease)]), (384, [iV r1.clock, iV r1.next, .own 704 0 4 (r1.list_.map eDLease)])], []⟩ (fgk (by kernel_rfl)) (seq_ (reg_ (st (c_ (cp_ ⟨tv, tv⟩ rfl tv) (st (c_ (cp_ ⟨tv, tv⟩ rfl (nl rfl)) (st (mv_ rfl tv (st (c_ (cp_ ⟨tv, tv, tv⟩ rfl rfl) (st (c_ (cp_ ⟨tv, tv⟩ rfl tv) (st (stp_ rfl rfl tv rfl rfl rfl (nl rfl) (oe_ (wk_ ⟨[(4, .ptr 256 0), (6, .ptr 384 0)], [(256, [iV 0, iV 0, .own 259 0 4 (([] : List DLease).map eDLease)]), (384, [iV (if a1 > a0.clock then a1 else a0.clock), iV r1.next, .own 704 0 4 (r1.list_.map eDLease)])], []⟩ (fgk (by kernel_rfl)) (seq_ (reg_ (st (nilS_ (oe_ (wk_ ⟨[(4, .ptr 256 0), (6, .ptr 384 0), (7, .own 448 0 4 ([].map eDLease))], [(256, [iV 0, iV 0, .own 259 0 4 (([] : List DLease).map eDLease)]), (384, [iV (if a1 > a0.clock then a1 else a0.clock), iV r1.next, .own 704 0 4 (r1.list_.map eDLease)])], []⟩ (fgk (by kernel_rfl)) (seq_ (seq_ (reg_ (st (c_ (cp_ ⟨tv, tv⟩ rfl tv) (st (c_ (cp_ ⟨tv, tv⟩ rfl (nl rfl)) (st (c_ (clenO (e := eDLease) (l0 := r1.list_) rfl rfl tv) (st (mvc_ tv (oe_ (wk_ ⟨[(4, .ptr 256 0), (6, .ptr 384 0), (7, .own 448 0 4 ([].map eDLease)), (18, .own 704 0 4 (r1.list_.map eDLease)), (19, iV (r1.list_.length : Int)), (20, iV 0)], [(256, [iV 0, iV 0, .own 259 0 4 (([] : List DLease).map eDLease)]), (384, [iV (if a1 > a0.clock then a1 else a0.clock), iV r1.next, .own 704 0 4 (r1.list_.map eDLease)])], []⟩ (fgk (by kernel_rfl)) (block_ ?_)))))))))))))))))))))))))))))))))))))))))))
 obtain ⟨r74, e75, h0⟩ := bnd h0
 refine loop_ (R := (fun S => ∃ p43 : List DLease, ∃ p44 : List DLease, (p43, p44) = r74 ∧ S = ⟨[(4, .ptr 256 0), (6, .ptr 384 0), (7, .own 448 0 4 (p43.map eDLease))], [(256, [iV 0, iV 0, .own 259 0 4 (([] : List DLease).map eDLease)]), (384, [iV (if a1 > a0.clock then a1 else a0.clock), iV r1.next, .own 704 0 4 (p44.map eDLease)])], []⟩)) (g82_l0 a0 a1 r1) (fun s S => match s with | (p19, p20, p21) => S = ⟨[(4, .ptr 256 0), (6, .ptr 384 0), (7, .own 448 0 4 (p19.map eDLease)), (18, .own 704 0 4 (p20.map eDLease)), (19, iV (r1.list_.length : Int)), (20, iV p21)], [(256, [iV 0, iV 0, .own 259 0 4 (([] : List DLease).map eDLease)]), (384, [iV (if a1 > a0.clock then a1 else a0.clock), iV r1.next, .own 704 0 4 (p20.map eDLease)])], []⟩) e75 ⟨[(4, .ptr 256 0), (6, .ptr 384 0), (7, .own 448 0 4 ([].map eDLease)), (18, .own 704 0 4 (r1.list_.map eDLease)), (19, iV (r1.list_.length : Int)), (20, iV 0)], [(256, [iV 0, iV 0, .own 259 0 4 (([] : List DLease).map eDLease)]), (384, [iV (if a1 > a0.clock then a1 else a0.clock), iV r1.next, .own 704 0 4 (r1.list_.map eDLease)])], []⟩ (fgk (by kernel_rfl)) rfl 0 (fun _ => rfl) ?_ ?_
 ·rintro S _ hfg ⟨p43, p44, rfl, rfl⟩
  refine wk_ ⟨[(4, .ptr 256 0), (6, .ptr 384 0), (7, .own 448 0 4 (p43.map eDLease))], [(256, [iV 0, iV 0, .own 259 0 4 (([] : List DLease).map eDLease)]), (384, [iV (if a1 > a0.clock then a1 else a0.clock), iV r1.next, .own 704 0 4 (p44.map eDLease)])], []⟩ (fglk hfg (by kernel_rfl)) (seq_ (reg_ (st (mv_ rfl tv ?_))))
  obtain ⟨r76, e77, h0⟩ := bnd h0
  obtain ⟨c78, h0⟩ := grd h0
  refine st (call1_ [] [448] [] false (H116 p43 69 [] (fun z69_0 z69_1 => g69 z69_0 z69_1) (⟨fun _ _ _ _ _ => rfl, fun _ _ _ _ _ => rfl, rfl, fun _ _ _ n => by cases n <;> rfl, fun _ => rfl⟩) (fun z69_0 z69_1 r h => H69 z69_0 z69_1 r h) r76 e77) ⟨tv, tv, tv⟩ (by kernel_rfl) (by kernel_rfl) (by kernel_rfl) (by kernel_rfl) (fun _ => and_ rfl (and_ (fl2 (fun _ => rfl)) rfl)) (oe_ (wk_ ⟨[(4, .ptr 256 0), (6, .ptr 384 0), (7, .own 448 0 4 (r76.map eDLease))], [(256, [iV 0, iV 0, .own 259 0 4 (([] : List DLease).map eDLease)]), (384, [iV (if a1 > a0.clock then a1 else a0.clock), iV r1.next, .own 704 0 4 (p44.map eDLease)])], []⟩ (fg ⟨rfl, rfl, (congrArg (fun z => some ((z : V))) (row_eq c78)), tv⟩ ⟨rfl, rfl, tv⟩) (seq_ ?_))))
  obtain ⟨r79, e80, h0⟩ := bnd h0
  refine draw_ (dtake tv (c_ (v := .agg [iV (if a1 > a0.clock then a1 else a0.clock), iV r1.next, .own 704 0 4 (p44.map eDLease)]) (cp_ ⟨tv, tv⟩ rfl (nl rfl)) (⟨tv, (dtake tv (mv_ rfl tv (⟨tv, (dtake tv (c_ (v := .agg [iV 0, iV 0, .own 448 0 4 (r76.map eDLease)]) (cp_ ⟨tv, tv⟩ rfl ⟨⟨rfl, rfl, nl rfl⟩, tv⟩) (⟨tv, (dalt (call0_ (r := .own 0 0 1 (r79.map eI)) false (H60 (DTable.mk 0 0 r76) r79 e80) ⟨tv, tv⟩ rfl rfl (fun _ => (and_ (fl1 (fun _ => rfl)) rfl)) (dkw ⟨[(4, .ptr 256 0), (6, .ptr 384 0), (47, .agg [iV (if a1 > a0.clock then a1 else a0.clock), iV r1.next, .own 704 0 4 (p44.map eDLease)]), (50, .own 3200 0 1 (r79.map eI))], [(256, [iV 0, iV 0, .own 259 0 4 (([] : List DLease).map eDLease)]), (384, [iV (if a1 > a0.clock then a1 else a0.clock), iV r1.next, .own 704 0 4 (p44.map eDLease)])], []⟩ (fgk (by kernel_rfl)) ⟨[], ⟨⟨.inl tv, (again1 (cp_ ⟨tv, tv⟩ rfl (nl rfl)) rfl)⟩, tv⟩, tv, (dalt (stp_ rfl rfl tv rfl rfl rfl (nl rfl) (dk0 ⟨[], tv, tv, (dtake tv (mv_ rfl tv (⟨tv, (dfin (wk_ ⟨[(4, .ptr 256 0), (5, .own 3200 0 1 (r79.map eI))], [(256, [iV (if a1 > a0.clock then a1 else a0.clock), iV r1.next, .own 704 0 4 (p44.map eDLease)])], []⟩ (fgk (by kernel_rfl)) ?_))⟩)))⟩)) dstop)⟩)) dstop)⟩)))⟩)))⟩)))
  obtain rfl := Option.some.inj h0
  exact rt_ (ret_ rfl rfl rfl rfl rfl tv)
 ·rintro ⟨p19, p20, p21⟩ o1 _ K1 rfl h1 hx1 hK1 hE1 hR1
  refine seq_ (reg_ (st (c_ (cp_ t3 rfl tv) (oe_ (wk_ ⟨[(4, .ptr 256 0), (6, .ptr 384 0), (7, .own 448 0 4 (p19.map eDLease)), (18, .own 704 0 4 (p20.map eDLease)), (19, iV (r1.list_.length : Int)), (20, iV p21), (21, .bool (decide (p21 < (r1.list_.length : Int))))], [(256, [iV 0, iV 0, .own 259 0 4 (([] : List DLease).map eDLease)]), (384, [iV (if a1 > a0.clock then a1 else a0.clock), iV r1.next, .own 704 0 4 (p20.map eDLease)])], []⟩ (fgk (by kernel_rfl)) (seq_ (ite_ (cb := (decide (p21 < (r1.list_.length : Int)))) rfl (fun c45 => ?_) (fun c45 => ?_))))))))
  ·replace h1 := ip c45 h1
   refine sk_ (wk_ ⟨[(4, .ptr 256 0), (6, .ptr 384 0), (7, .own 448 0 4 (p19.map eDLease)), (18, .own 704 0 4 (p20.map eDLease)), (19, iV (r1.list_.length : Int)), (20, iV p21)], [(256, [iV 0, iV 0, .own 259 0 4 (([] : List DLease).map eDLease)]), (384, [iV (if a1 > a0.clock then a1 else a0.clock), iV r1.next, .own 704 0 4 (p20.map eDLease)])], []⟩ (fgk (by kernel_rfl)) (seq_ (blockJ (fun S => ∃ p58 : List DLease, ∃ p59 : List DLease, S = ⟨[(4, .ptr 256 0), (6, .ptr 384 0), (7, .own 448 0 4 (p58.map eDLease)), (18, .own 704 0 4 (p59.map eDLease)), (19, iV (r1.list_.length : Int)), (20, iV p21)], [(256, [iV 0, iV 0, .own 259 0 4 (([] : List DLease).map eDLease)]), (384, [iV (if a1 > a0.clock then a1 else a0.clock), iV r1.next, .own 704 0 4 (p59.map eDLease)])], []⟩ ∧ g82_j0 p21 p58 p59 = some o1) ?_ (fun J61 => ?_))))
   ·rintro _ ⟨p58, p59, rfl, h1⟩
    refine wk_ ⟨[(4, .ptr 256 0), (6, .ptr 384 0), (7, .own 448 0 4 (p58.map eDLease)), (18, .own 704 0 4 (p59.map eDLease)), (19, iV (r1.list_.length : Int)), (20, iV p21)], [(256, [iV 0, iV 0, .own 259 0 4 (([] : List DLease).map eDLease)]), (384, [iV (if a1 > a0.clock then a1 else a0.clock), iV r1.next, .own 704 0 4 (p59.map eDLease)])], []⟩ (fgk (by kernel_rfl)) (reg_ (st (c_ (cp_ t3 rfl tv) (st (mv_ rfl tv (oe_ ?_))))))
    obtain rfl := Option.some.inj h1
    exact hK1 _ rfl _ ⟨[(4, .ptr 256 0), (6, .ptr 384 0), (7, .own 448 0 4 (p58.map eDLease)), (18, .own 704 0 4 (p59.map eDLease)), (19, iV (r1.list_.length : Int)), (20, iV (IntKind.i64.wrap (p21 + 1)))], [(256, [iV 0, iV 0, .own 259 0 4 (([] : List DLease).map eDLease)]), (384, [iV (if a1 > a0.clock then a1 else a0.clock), iV r1.next, .own 704 0 4 (p59.map eDLease)])], []⟩ (fgk (by kernel_rfl)) rfl
   ·refine seq_ ?_
    refine reg_ (st (mv_ rfl tv ?_))
    obtain ⟨y62, e63, h1⟩ := bnd h1
    refine st (c_ (cidxO (e := eDLease) (y := y62) rfl rfl tv rfl rfl tv e63) ?_)
    obtain ⟨y64, e65, h1⟩ := bnd h1
    refine st (c_ (v := .agg (eDLease y64)) (cloadO (e := eDLease) (y := y64) (v := .agg (eDLease y64)) rfl rfl tv rfl rfl e65 rfl (nl rfl) rfl) (st (alloc_ (st (mv_ rfl tv (st (stp_ rfl rfl tv rfl rfl rfl (nl rfl) (oe_ (wk_ ⟨[(4, .ptr 256 0), (6, .ptr 384 0), (7, .own 448 0 4 (p19.map eDLease)), (8, iV p21), (9, .ptr 576 0), (18, .own 704 0 4 (p20.map eDLease)), (19, iV (r1.list_.length : Int)), (20, iV p21)], [(256, [iV 0, iV 0, .own 259 0 4 (([] : List DLease).map eDLease)]), (384, [iV (if a1 > a0.clock then a1 else a0.clock), iV r1.next, .own 704 0 4 (p20.map eDLease)]), (576, [iV y64.id, iV y64.until_, iV y64.cap, .bool y64.queued])], []⟩ (fgk (by kernel_rfl)) (seq_ (reg_ (st (c_ (cp_ ⟨tv, tv⟩ rfl tv) (st (c_ (cp_ ⟨tv, tv⟩ rfl (nl rfl)) (st (c_ (cp_ ⟨tv, tv⟩ rfl tv) (st (mv_ rfl tv (st (pg_ (u := .ptr 576 1) rfl (fun hg => (cp_ ⟨tv, tv⟩ rfl tv)) (st (pg_ (u := iV y64.until_) rfl (fun hg => (cp_ ⟨(fun _ => hg), tv⟩ rfl (nl rfl))) (st (pg_ (u := .ptr 384 0) rfl (fun hg => (cp_ ⟨tv, tv⟩ rfl tv)) (st (pg_ (u := iV (if a1 > a0.clock then a1 else a0.clock)) rfl (fun hg => (cp_ ⟨(fun _ => hg), tv⟩ rfl (nl rfl))) (st (pg_ (u := .bool (decide (y64.until_ ≤ (if a1 > a0.clock then a1 else a0.clock)))) rfl (fun hg => (cp_ ⟨(fun _ => hg), (fun _ => hg), tv⟩ rfl tv)) (st (pick_ rfl rfl rfl (fun h => eqt h) tv rfl (oe_ ?_))))))))))))))))))))))))))))))))
    obtain ⟨v66, e67, h1⟩ := bl h1
    refine wk_ ⟨[(4, .ptr 256 0), (6, .ptr 384 0), (7, .own 448 0 4 (p19.map eDLease)), (8, iV p21), (9, .ptr 576 0), (18, .own 704 0 4 (p20.map eDLease)), (19, iV (r1.list_.length : Int)), (20, iV p21), (34, .bool v66)], [(256, [iV 0, iV 0, .own 259 0 4 (([] : List DLease).map eDLease)]), (384, [iV (if a1 > a0.clock then a1 else a0.clock), iV r1.next, .own 704 0 4 (p20.map eDLease)]), (576, [iV y64.id, iV y64.until_, iV y64.cap, .bool y64.queued])], []⟩ (fgk (by subst e67; kernel_rfl)) (ite_ (cb := v66) rfl (fun c68 => ?_) (fun c68 => ?_))
    ·replace h1 := ip c68 h1
     refine seq_ (reg_ (st (c_ (cp_ ⟨tv, tv⟩ rfl tv) (st (c_ (cp_ ⟨tv, tv⟩ rfl (nl rfl)) (st (mv_ rfl tv ?_)))))))
     obtain ⟨y69, e70, h1⟩ := bnd h1
     refine st (c_ (cidxO (e := eDLease) (y := y69) rfl rfl tv rfl rfl tv e70) (st (c_ (cp_ ⟨tv, tv⟩ rfl tv) ?_)))
     obtain ⟨y71, e72, h1⟩ := bnd h1
     refine st (sto_ (y' := (DLease.mk y71.id y71.until_ y71.cap true)) rfl rfl tv rfl rfl rfl rfl e72 (nl rfl) rfl rfl rfl rfl (oe_ (wk_ ⟨[(4, .ptr 256 0), (6, .ptr 384 0), (7, .own 448 0 4 (p19.map eDLease)), (9, .ptr 576 0), (18, .own 704 0 4 ((p20.set p21.toNat (DLease.mk y71.id y71.until_ y71.cap true)).map eDLease)), (19, iV (r1.list_.length : Int)), (20, iV p21)], [(256, [iV 0, iV 0, .own 259 0 4 (([] : List DLease).map eDLease)]), (384, [iV (if a1 > a0.clock then a1 else a0.clock), iV r1.next, .own 704 0 4 ((p20.set p21.toNat (DLease.mk y71.id y71.until_ y71.cap true)).map eDLease)]), (576, [iV y64.id, iV y64.until_, iV y64.cap, .bool y64.queued])], []⟩ (fg ⟨rfl, rfl, rfl, rfl, (congrArg (fun z => some ((.own 704 0 4 z : V))) overlay_map), rfl, rfl, tv⟩ ⟨rfl, (congrArg (fun z => some (([iV (if a1 > a0.clock then a1 else a0.clock), iV r1.next, .own 704 0 4 z] : List V))) overlay_map), rfl, tv⟩) (reg_ (st (mv_ rfl tv (st (c_ (v := .agg (eDLease y64)) (cp_ ⟨tv, tv⟩ rfl (nl rfl)) (st (mkS_ ⟨tv, tv⟩ ⟨⟨nl rfl, rfl, rfl⟩, tv⟩ ?_))))))))))
     obtain ⟨c73, h1⟩ := grd h1
     refine st (app_ (e := eDLease) (l0 := p19) (l1 := ([y64] : List DLease)) rfl rfl tv rfl (by decide) c73 (st (mv_ rfl tv (oe_ (bn_ ?_)))))
     exact J61 _ ⟨[(4, .ptr 256 0), (6, .ptr 384 0), (7, .own 448 0 4 ((p19 ++ ([y64] : List DLease)).map eDLease)), (18, .own 704 0 4 ((p20.set p21.toNat (DLease.mk y71.id y71.until_ y71.cap true)).map eDLease)), (19, iV (r1.list_.length : Int)), (20, iV p21)], [(256, [iV 0, iV 0, .own 259 0 4 (([] : List DLease).map eDLease)]), (384, [iV (if a1 > a0.clock then a1 else a0.clock), iV r1.next, .own 704 0 4 ((p20.set p21.toNat (DLease.mk y71.id y71.until_ y71.cap true)).map eDLease)])], []⟩ (fgk (by kernel_rfl)) ⟨_, _, rfl, h1⟩
    ·replace h1 := inb c68 h1
     refine sk_ (bn_ ?_)
     exact J61 _ ⟨[(4, .ptr 256 0), (6, .ptr 384 0), (7, .own 448 0 4 (p19.map eDLease)), (18, .own 704 0 4 (p20.map eDLease)), (19, iV (r1.list_.length : Int)), (20, iV p21)], [(256, [iV 0, iV 0, .own 259 0 4 (([] : List DLease).map eDLease)]), (384, [iV (if a1 > a0.clock then a1 else a0.clock), iV r1.next, .own 704 0 4 (p20.map eDLease)])], []⟩ (fgk (by kernel_rfl)) ⟨_, _, rfl, h1⟩
  ·replace h1 := inb c45 h1
   obtain rfl := Option.some.inj h1
   obtain rfl := hx1 _ rfl
   refine exQ rfl ?_
   exact hE1 _ ⟨[(4, .ptr 256 0), (6, .ptr 384 0), (7, .own 448 0 4 (p19.map eDLease))], [(256, [iV 0, iV 0, .own 259 0 4 (([] : List DLease).map eDLease)]), (384, [iV (if a1 > a0.clock then a1 else a0.clock), iV r1.next, .own 704 0 4 (p20.map eDLease)])], []⟩ (fgk (by kernel_rfl)) ⟨_, _, rfl, rfl⟩

/- loop.example/g00149/impl.Tick -/
def c35_r0 : List Ins := [⟨some 2, .box (.t 0), none⟩,
⟨some 4, .alloc [(iV 0), (iV 0), (.own 259 0 4 [])], none⟩,
⟨some 5, .nilS 1, none⟩,
⟨some 6, .p (.mv (.c (iV 0))), none⟩]
def c35_r1 : List Ins := [(iQ 9 (.load (.t 2) 3 true)),
⟨some 10, .call 20 [(.t 9)], none⟩,
(iQ 11 (.un .not (.t 10)))]
def c35_r2 : List Ins := [(iQ 12 (.build [(iV 0), (iV 0), (.own 771 0 4 [])] [])),
⟨none, .store (.t 4) (.t 12) 3, none⟩,
⟨some 5, .nilS 1, none⟩,
⟨some 6, .p (.mv (.c (iV 1))), none⟩]
def c35_r3 : List Ins := [(iQ 14 (.load (.t 2) 3 true)),
(iQ 15 (.mv (.t 1))),
⟨some 16, .call 82 [(.t 14), (.t 15)], none⟩,
(iQ 13 (.mv (.t 16))),
(iQ 17 (.ext (.t 13) 0)),
(iQ 18 (.ext (.t 13) 1)),
⟨some 7, .alloc [(iV 0), (iV 0), (.own 451 0 4 [])], none⟩,
⟨none, .store (.t 7) (.t 17) 3, none⟩,
(iQ 8 (.mv (.t 18)))]
def c35_r4 : List Ins := [(iQ 19 (.load (.t 7) 3 true)),
(iQ 20 (.mv (.t 8))),
⟨none, .store (.t 4) (.t 19) 3, none⟩,
(iQ 5 (.mv (.t 20))),
⟨some 6, .p (.mv (.c (iV 0))), none⟩]
def c35 : XFn := { np := 2, nt := 21, res := [.cell 4 3 true, .t 5, .t 6], body := (.seq (.reg c35_r0) (.seq (.seq (.reg c35_r1) (.ite (.t 11) (.seq (.reg c35_r2) .ret) .skip)) (.seq (.reg c35_r3) (.seq (.reg c35_r4) .ret)))) }
def K35 (C : CRel) : Prop := ∀ (a0 : DTable) (a1 : Int) (r : DTable × (List Int) × Int), g35 a0 a1 = some r → C 35 ⟨[.agg (eDTable a0), iV a1], []⟩ ⟨.tup [.agg [iV r.1.clock, iV r.1.next, .own 0 0 4 (r.1.list_.map eDLease)], .own 1 0 1 (r.2.1.map eI), iV r.2.2], [], []⟩
theorem F35 {C : CRel} (H20 : K20 C) (H82 : K82 C) (a0 : DTable) (a1 : Int) (r : DTable × (List Int) × Int) (h0 : g35 a0 a1 = some r) : FnOK C c35 ⟨[.agg (eDTable a0), iV a1], []⟩ ⟨.tup [.agg [iV r.1.clock, iV r.1.next, .own 0 0 4 (r.1.list_.map eDLease)], .own 1 0 1 (r.2.1.map eI), iV r.2.2], [], []⟩ := by
 refine fn_ (nl rfl) (seq_ (reg_ (st (box_ rfl tv rfl (st (alloc_ (st (nilS_ (st (mvc_ tv (oe_ (wk_ ⟨[(1, iV a1), (2, .ptr 128 0), (4, .ptr 256 0)], [(128, [iV a0.clock, iV a0.next, .lst 4 (a0.list_.map eDLease)]), (256, [iV 0, iV 0, .own 259 0 4 (([] : List DLease).map eDLease)])], []⟩ (fgk (by kernel_rfl)) (seq_ (seq_ (reg_ (st (c_ (v := .agg (eDTable a0)) (cp_ ⟨tv, tv⟩ rfl (nl rfl)) ?_)))))))))))))))))
 obtain ⟨r1, e2, h0⟩ := bnd h0
 refine st (call0_ (r := .bool r1) false (H20 a0 r1 e2) ⟨tv, tv⟩ rfl rfl (fun _ => rfl) (st (c_ (cp_ ⟨tv, tv⟩ rfl tv) (oe_ (wk_ ⟨[(1, iV a1), (2, .ptr 128 0), (4, .ptr 256 0), (11, .bool (!r1))], [(128, [iV a0.clock, iV a0.next, .lst 4 (a0.list_.map eDLease)]), (256, [iV 0, iV 0, .own 259 0 4 (([] : List DLease).map eDLease)])], []⟩ (fgk (by kernel_rfl)) (ite_ (cb := (!r1)) rfl (fun c3 => ?_) (fun c3 => ?_)))))))
 ·replace h0 := ip c3 h0
  refine seq_ (reg_ (st (c_ (v := .agg [iV 0, iV 0, .own 771 0 4 (([] : List DLease).map eDLease)]) (cp_ tv rfl tv) (st (stp_ rfl rfl tv rfl rfl rfl (nl rfl) (st (nilS_ (st (mvc_ tv (oe_ (wk_ ⟨[(4, .ptr 256 0), (5, .own 320 0 1 ([].map eI)), (6, iV 1)], [(256, [iV 0, iV 0, .own 771 0 4 (([] : List DLease).map eDLease)])], []⟩ (fgk (by kernel_rfl)) ?_)))))))))))
  obtain rfl := Option.some.inj h0
  exact rt_ (ret_ rfl rfl rfl rfl rfl tv)
 ·replace h0 := inb c3 h0
  refine sk_ (wk_ ⟨[(1, iV a1), (2, .ptr 128 0), (4, .ptr 256 0)], [(128, [iV a0.clock, iV a0.next, .lst 4 (a0.list_.map eDLease)]), (256, [iV 0, iV 0, .own 259 0 4 (([] : List DLease).map eDLease)])], []⟩ (fgk (by kernel_rfl)) (seq_ (reg_ (st (c_ (v := .agg (eDTable a0)) (cp_ ⟨tv, tv⟩ rfl (nl rfl)) (st (mv_ rfl tv ?_)))))))
  obtain ⟨r4, e5, h0⟩ := bnd h0
  refine st (call0_ (r := .tup [.agg [iV r4.1.clock, iV r4.1.next, .own 0 0 4 (r4.1.list_.map eDLease)], .own 1 0 1 (r4.2.map eI)]) false (H82 a0 a1 r4 e5) ⟨tv, tv, tv⟩ rfl rfl (fun _ => (and_ rfl (and_ rfl (and_ (fl1 (fun _ => rfl)) (and_ (fl1 (fun _ => rfl)) rfl))))) (st (mv_ rfl tv (st (c_ (cp_ ⟨tv, tv⟩ rfl tv) (st (c_ (cp_ ⟨tv, tv⟩ rfl tv) (st (alloc_ (st (stp_ rfl rfl tv rfl rfl rfl (nl rfl) (sw ⟨[(4, .ptr 256 0), (7, .ptr 448 0), (18, .own 1025 0 1 (r4.2.map eI))], [(256, [iV 0, iV 0, .own 259 0 4 (([] : List DLease).map eDLease)]), (448, [iV r4.1.clock, iV r4.1.next, .own 1024 0 4 (r4.1.list_.map eDLease)])], []⟩ (fgk (by kernel_rfl)) (mv_ rfl tv (oe_ (wk_ ⟨[(4, .ptr 256 0), (7, .ptr 448 0), (8, .own 1025 0 1 (r4.2.map eI))], [(256, [iV 0, iV 0, .own 259 0 4 (([] : List DLease).map eDLease)]), (448, [iV r4.1.clock, iV r4.1.next, .own 1024 0 4 (r4.1.list_.map eDLease)])], []⟩ (fgk (by kernel_rfl)) (seq_ (reg_ (st (c_ (v := .agg [iV r4.1.clock, iV r4.1.next, .own 1024 0 4 (r4.1.list_.map eDLease)]) (cp_ ⟨tv, tv⟩ rfl (nl rfl)) (st (mv_ rfl tv (st (stp_ rfl rfl tv rfl rfl rfl (nl rfl) (st (mv_ rfl tv (st (mvc_ tv (oe_ (wk_ ⟨[(4, .ptr 256 0), (5, .own 1025 0 1 (r4.2.map eI)), (6, iV 0)], [(256, [iV r4.1.clock, iV r4.1.next, .own 1024 0 4 (r4.1.list_.map eDLease)])], []⟩ (fgk (by kernel_rfl)) ?_)))))))))))))))))))))))))))))
  obtain rfl := Option.some.inj h0
  exact rt_ (ret_ rfl rfl rfl rfl rfl tv)

/- loop.example/g00149/spec.l00Source -/
def c83_r0 : List Ins := [(iQ 2 (.mv (.c .undef)))]
def c83_r1 : List Ins := [(iQ 3 (.mv (.t 0))),
(iQ 4 (.mv (.t 0))),
(iQ 5 (.len (.t 4))),
⟨some 6, .p (.bin .rem (.t 5) (.c (iV 1000))), none⟩,
⟨some 7, .p (.build [(.own 449 0 1 []), (iV 0), (iV 0)] [(0, 1, (.t 3)), (2, 1, (.t 6))]), none⟩,
⟨some 8, .box (.t 7), none⟩,
(iQ 2 (.mv (.t 8)))]
def c83 : XFn := { np := 1, nt := 9, res := [.t 2], body := (.seq (.reg c83_r0) (.seq (.reg c83_r1) .ret)) }
def K83 (C : CRel) : Prop := ∀ (a0 : List UInt8) (r : Dl00Src), g83 a0 = some r → C 83 ⟨[.lst 1 (a0.map eU8)], []⟩ ⟨.ptr 0 0, [[.lst 1 (r.code_.map eU8), iV r.at_, iV r.seed]], []⟩
theorem F83 {C : CRel}  (a0 : List UInt8) (r : Dl00Src) (h0 : g83 a0 = some r) : FnOK C c83 ⟨[.lst 1 (a0.map eU8)], []⟩ ⟨.ptr 0 0, [[.lst 1 (r.code_.map eU8), iV r.at_, iV r.seed]], []⟩ := by
 refine fn_ (nl rfl) (seq_ (reg_ (st (mvc_ tv (oe_ (wk_ ⟨[(0, .lst 1 (a0.map eU8))], [], []⟩ (fgk (by kernel_rfl)) (seq_ (reg_ (st (mv_ rfl tv (st (mv_ rfl tv (st (c_ (clenL (e := eU8) (l0 := a0) rfl rfl tv) (st (c_ (cp_ ⟨tv, tv, tv⟩ rfl (by decide)) (st (c_ (v := .agg [.lst 1 (a0.map eU8), iV 0, iV (((a0.length : Int)).tmod 1000)]) (cp_ ⟨tv, tv, tv⟩ rfl ⟨⟨rfl, rfl, nl rfl⟩, ⟨rfl, rfl, nl rfl⟩, tv⟩) (st (box_ rfl tv rfl (st (mv_ rfl tv (oe_ (wk_ ⟨[(2, .ptr 512 0)], [(512, [.lst 1 (a0.map eU8), iV 0, iV (((a0.length : Int)).tmod 1000)])], []⟩ (fgk (by kernel_rfl)) ?_))))))))))))))))))))))))
 obtain rfl := Option.some.inj h0
 exact rt_ (ret_ rfl rfl rfl rfl rfl tv)

/- loop.example/g00149/spec.l08Later -/
def c53_r0 : List Ins := [⟨some 4, .p (.mv (.c (iV 0))), none⟩]
def c53_r1 : List Ins := [(iQ 5 (.mv (.t 0))),
(iQ 6 (.mv (.t 1))),
⟨some 7, .p (.bin .sub (.c (iV 9223372036854775807)) (.t 6)), none⟩,
(iQ 8 (.bin .gtr (.t 5) (.t 7)))]
def c53_r2 : List Ins := [⟨some 4, .p (.mv (.c (iV 9223372036854775807))), none⟩]
def c53_r3 : List Ins := [(iQ 9 (.mv (.t 0))),
(iQ 10 (.mv (.t 1))),
(iQ 11 (.bin .add (.t 9) (.t 10))),
(iQ 4 (.mv (.t 11)))]
def c53 : XFn := { np := 2, nt := 12, res := [.t 4], body := (.seq (.reg c53_r0) (.seq (.seq (.reg c53_r1) (.ite (.t 8) (.seq (.reg c53_r2) .ret) .skip)) (.seq (.reg c53_r3) .ret))) }
def K53 (C : CRel) : Prop := ∀ (a0 : Int) (a1 : Int) (r : Int), g53 a0 a1 = some r → C 53 ⟨[iV a0, iV a1], []⟩ ⟨iV r, [], []⟩
theorem F53 {C : CRel}  (a0 : Int) (a1 : Int) (r : Int) (h0 : g53 a0 a1 = some r) : FnOK C c53 ⟨[iV a0, iV a1], []⟩ ⟨iV r, [], []⟩ := by
 refine fn_ (nl rfl) (seq_ (reg_ (st (mvc_ tv (oe_ (wk_ ⟨[(0, iV a0), (1, iV a1)], [], []⟩ (fgk (by kernel_rfl)) (seq_ (seq_ (reg_ (st (mv_ rfl tv (st (mv_ rfl tv (st (c_ (cp_ t3 rfl tv) (st (c_ (cp_ t3 rfl tv) (oe_ (wk_ ⟨[(0, iV a0), (1, iV a1), (8, .bool (decide (a0 > (IntKind.i64.wrap (9223372036854775807 - a1)))))], [], []⟩ (fgk (by kernel_rfl)) (ite_ (cb := (decide (a0 > (IntKind.i64.wrap (9223372036854775807 - a1))))) rfl (fun c1 => ?_) (fun c1 => ?_)))))))))))))))))))))
 ·replace h0 := ip c1 h0
  refine seq_ (reg_ (st (mvc_ tv (oe_ (wk_ ⟨[(4, iV 9223372036854775807)], [], []⟩ (fgk (by kernel_rfl)) ?_)))))
  obtain rfl := Option.some.inj h0
  exact rt_ (ret_ rfl rfl rfl rfl rfl tv)
 ·replace h0 := inb c1 h0
  refine sk_ (wk_ ⟨[(0, iV a0), (1, iV a1)], [], []⟩ (fgk (by kernel_rfl)) (seq_ (reg_ (st (mv_ rfl tv (st (mv_ rfl tv (st (c_ (cp_ t3 rfl tv) (st (mv_ rfl tv (oe_ (wk_ ⟨[(4, iV (IntKind.i64.wrap (a0 + a1)))], [], []⟩ (fgk (by kernel_rfl)) ?_)))))))))))))
  obtain rfl := Option.some.inj h0
  exact rt_ (ret_ rfl rfl rfl rfl rfl tv)

/- loop.example/g00149/spec.l08Grant -/
def c70_r0 : List Ins := [⟨some 3, .box (.t 0), none⟩,
⟨some 6, .alloc [(iV 0), (iV 0), (.own 387 0 4 [])], none⟩,
⟨some 7, .p (.mv (.c (iV 0))), none⟩,
⟨some 8, .p (.mv (.c (iV 0))), none⟩]
def c70_r1 : List Ins := [(iQ 11 (.mv (.t 1))),
⟨some 12, .p (.bin .lss (.t 11) (.c (iV 1))), none⟩,
(iQ 13 (.mv (.t 12))),
⟨some 14, .p (.mv (.t 2)), some (13, false)⟩,
⟨some 15, .p (.mv (.t 1)), some (13, false)⟩,
⟨some 16, .p (.bin .lss (.t 14) (.t 15)), some (13, false)⟩,
⟨some 17, .pick (.t 13) (.c (.bool true)) (.t 16), none⟩,
(iQ 10 (.mv (.t 17)))]
def c70_r2 : List Ins := [(iQ 18 (.load (.t 3) 3 true)),
⟨none, .store (.t 6) (.t 18) 3, none⟩,
⟨some 7, .p (.mv (.c (iV 0))), none⟩,
⟨some 8, .p (.mv (.c (iV 4))), none⟩]
def c70_r3 : List Ins := [(iQ 20 (.fieldA (.t 3) 0)),
(iQ 21 (.load (.t 20) 1 false)),
⟨some 22, .p (.bin .eql (.t 21) (.c (iV 9223372036854775807))), none⟩,
(iQ 19 (.mv (.t 22)))]
def c70_r4 : List Ins := [(iQ 23 (.load (.t 3) 3 true)),
⟨none, .store (.t 6) (.t 23) 3, none⟩,
⟨some 7, .p (.mv (.c (iV 0))), none⟩,
⟨some 8, .p (.mv (.c (iV 11))), none⟩]
def c70_r5 : List Ins := [(iQ 25 (.fieldA (.t 3) 2)),
(iQ 26 (.load (.t 25) 1 false)),
(iQ 27 (.len (.t 26))),
⟨some 28, .p (.bin .eql (.t 27) (.c (iV 40))), none⟩,
(iQ 29 (.mv (.t 28))),
⟨some 30, .p (.fieldA (.t 3) 1), some (29, false)⟩,
⟨some 31, .p (.load (.t 30) 1 false), some (29, false)⟩,
⟨some 32, .p (.bin .eql (.t 31) (.c (iV 1000000))), some (29, false)⟩,
⟨some 33, .pick (.t 29) (.c (.bool true)) (.t 32), none⟩,
(iQ 24 (.mv (.t 33)))]
def c70_r6 : List Ins := [(iQ 34 (.load (.t 3) 3 true)),
⟨none, .store (.t 6) (.t 34) 3, none⟩,
⟨some 7, .p (.mv (.c (iV 0))), none⟩,
⟨some 8, .p (.mv (.c (iV 9))), none⟩]
def c70_r7 : List Ins := [(iQ 35 (.load (.t 3) 3 true)),
⟨some 36, .call 111 [(.t 35)], none⟩,
⟨some 9, .alloc [(iV 0), (iV 0), (.own 579 0 4 [])], none⟩,
⟨none, .store (.t 9) (.t 36) 3, none⟩]
def c70_r8 : DP := (.take (iQ 37 (.fieldA (.t 9) 2))
(.take (iQ 38 (.load (.t 37) 1 false))
(.take (iQ 39 (.fieldA (.t 3) 1))
(.take (iQ 40 (.load (.t 39) 1 false))
(.take (iQ 41 (.fieldA (.t 3) 0))
(.take (iQ 42 (.load (.t 41) 1 false))
(.take (iQ 43 (.mv (.t 1)))
(.take (iQ 45 (.fieldA (.t 3) 0))
(.take (iQ 46 (.load (.t 45) 1 false))
(.take (iQ 47 (.mv (.t 2)))
(.alt [(iQ 47 (.mv (.t 2))), (iQ 46 (.load (.t 45) 1 false)), (iQ 45 (.fieldA (.t 3) 0)), (iQ 40 (.load (.t 39) 1 false)), (iQ 39 (.fieldA (.t 3) 1)), (iQ 38 (.load (.t 37) 1 false)), (iQ 37 (.fieldA (.t 9) 2))] ⟨some 44, .call 53 [(.t 42), (.t 43)], none⟩
(.alt [(iQ 40 (.load (.t 39) 1 false)), (iQ 39 (.fieldA (.t 3) 1)), (iQ 38 (.load (.t 37) 1 false)), (iQ 37 (.fieldA (.t 9) 2))] ⟨some 48, .call 53 [(.t 46), (.t 47)], none⟩
(.take ⟨some 49, .p (.build [(iV 0), (iV 0), (iV 0), (.bool false)] [(0, 1, (.t 40)), (1, 1, (.t 44)), (2, 1, (.t 48))]), none⟩
(.alt [(iQ 38 (.load (.t 37) 1 false)), (iQ 37 (.fieldA (.t 9) 2))] ⟨some 50, .mkS 4 [(iV 0), (iV 0), (iV 0), (.bool false)] 1 [(0, (.t 49))], none⟩
(.alt [] ⟨some 51, .app 4 32 (.t 38) (.t 50), none⟩
(.take (iQ 52 (.fieldA (.t 9) 2))
(.alt [] ⟨none, .store (.t 52) (.t 51) 1, none⟩
.fin
.stop))
.stop)
.stop))
.stop)
.stop)))))))))))
def c70_r9 : List Ins := [(iQ 53 (.fieldA (.t 9) 1)),
(iQ 54 (.load (.t 53) 1 false)),
⟨some 55, .p (.bin .add (.t 54) (.c (iV 1))), none⟩,
(iQ 56 (.fieldA (.t 9) 1)),
⟨none, .store (.t 56) (.t 55) 1, none⟩]
def c70_r10 : DP := (.take (iQ 57 (.load (.t 9) 3 true))
(.take (iQ 58 (.fieldA (.t 3) 1))
(.take (iQ 59 (.load (.t 58) 1 false))
(.alt [(iQ 59 (.load (.t 58) 1 false)), (iQ 58 (.fieldA (.t 3) 1))] ⟨none, .store (.t 6) (.t 57) 3, none⟩
(.take (iQ 7 (.mv (.t 59)))
(.take ⟨some 8, .p (.mv (.c (iV 0))), none⟩
.fin))
.stop))))
def c70 : XFn := { np := 3, nt := 60, res := [.cell 6 3 true, .t 7, .t 8], body := (.seq (.reg c70_r0) (.seq (.block 0 (.seq (.reg c70_r1) (.ite (.t 10) (.seq (.reg c70_r2) .ret) (.seq (.reg c70_r3) (.ite (.t 19) (.seq (.reg c70_r4) .ret) (.seq (.reg c70_r5) (.ite (.t 24) (.seq (.reg c70_r6) .ret) .skip))))))) (.seq (.reg c70_r7) (.seq (.draw c70_r8) (.seq (.reg c70_r9) (.seq (.draw c70_r10) .ret)))))) }
def K70 (C : CRel) : Prop := ∀ (a0 : DTable) (a1 : Int) (a2 : Int) (r : DTable × Int × Int), g70 a0 a1 a2 = some r → C 70 ⟨[.agg (eDTable a0), iV a1, iV a2], []⟩ ⟨.tup [.agg [iV r.1.clock, iV r.1.next, .lst 4 (r.1.list_.map eDLease)], iV r.2.1, iV r.2.2], [], []⟩
theorem F70 {C : CRel} (H53 : K53 C) (H111 : K111 C) (a0 : DTable) (a1 : Int) (a2 : Int) (r : DTable × Int × Int) (h0 : g70 a0 a1 a2 = some r) : FnOK C c70 ⟨[.agg (eDTable a0), iV a1, iV a2], []⟩ ⟨.tup [.agg [iV r.1.clock, iV r.1.next, .lst 4 (r.1.list_.map eDLease)], iV r.2.1, iV r.2.2], [], []⟩ := by
 refine fn_ (nl rfl) (seq_ (reg_ (st (box_ rfl tv rfl (st (alloc_ (st (mvc_ tv (st (mvc_ tv (oe_ (wk_ ⟨[(1, iV a1), (2, iV a2), (3, .ptr 192 0), (6, .ptr 384 0)], [(192, [iV a0.clock, iV a0.next, .lst 4 (a0.list_.map eDLease)]), (384, [iV 0, iV 0, .own 387 0 4 (([] : List DLease).map eDLease)])], []⟩ (fgk (by kernel_rfl)) (seq_ (block_ (seq_ (reg_ (st (mv_ rfl tv (st (c_ (cp_ t3 rfl tv) (st (mv_ rfl tv (st (pg_ (u := iV a2) rfl (fun hg => (cmv (v := iV a2) rfl tv)) (st (pg_ (u := iV a1) rfl (fun hg => (cmv (v := iV a1) rfl tv)) (st (pg_ (u := .bool (decide (a2 < a1))) rfl (fun hg => (cp_ ⟨(fun _ => hg), (fun _ => hg), tv⟩ rfl tv)) (st (pick_ rfl rfl rfl tv (fun h => eqf h) rfl (st (mv_ rfl tv (oe_ (wk_ ⟨[(1, iV a1), (2, iV a2), (3, .ptr 192 0), (6, .ptr 384 0), (10, .bool (bif (decide (a1 < 1)) then true else (decide (a2 < a1))))], [(192, [iV a0.clock, iV a0.next, .lst 4 (a0.list_.map eDLease)]), (384, [iV 0, iV 0, .own 387 0 4 (([] : List DLease).map eDLease)])], []⟩ (fgk (by kernel_rfl)) (ite_ (cb := (bif (decide (a1 < 1)) then true else (decide (a2 < a1)))) rfl (fun c1 => ?_) (fun c1 => ?_))))))))))))))))))))))))))))))))))))
 ·replace h0 := ip c1 h0
  refine seq_ (reg_ (st (c_ (v := .agg (eDTable a0)) (cp_ ⟨tv, tv⟩ rfl (nl rfl)) (st (stp_ rfl rfl tv rfl rfl rfl (nl rfl) (st (mvc_ tv (st (mvc_ tv (oe_ (wk_ ⟨[(6, .ptr 384 0), (7, iV 0), (8, iV 4)], [(384, [iV a0.clock, iV a0.next, .lst 4 (a0.list_.map eDLease)])], []⟩ (fgk (by kernel_rfl)) ?_)))))))))))
  obtain rfl := Option.some.inj h0
  exact rt_ (ret_ rfl rfl rfl rfl rfl tv)
 ·replace h0 := inb c1 h0
  refine seq_ (reg_ (st (c_ (cp_ ⟨tv, tv⟩ rfl tv) (st (c_ (cp_ ⟨tv, tv⟩ rfl (nl rfl)) (st (c_ (cp_ t3 rfl tv) (st (mv_ rfl tv (oe_ (wk_ ⟨[(1, iV a1), (2, iV a2), (3, .ptr 192 0), (6, .ptr 384 0), (19, .bool (a0.clock == 9223372036854775807))], [(192, [iV a0.clock, iV a0.next, .lst 4 (a0.list_.map eDLease)]), (384, [iV 0, iV 0, .own 387 0 4 (([] : List DLease).map eDLease)])], []⟩ (fgk (by kernel_rfl)) (ite_ (cb := (a0.clock == 9223372036854775807)) rfl (fun c2 => ?_) (fun c2 => ?_)))))))))))))
  ·replace h0 := ip c2 h0
   refine seq_ (reg_ (st (c_ (v := .agg (eDTable a0)) (cp_ ⟨tv, tv⟩ rfl (nl rfl)) (st (stp_ rfl rfl tv rfl rfl rfl (nl rfl) (st (mvc_ tv (st (mvc_ tv (oe_ (wk_ ⟨[(6, .ptr 384 0), (7, iV 0), (8, iV 11)], [(384, [iV a0.clock, iV a0.next, .lst 4 (a0.list_.map eDLease)])], []⟩ (fgk (by kernel_rfl)) ?_)))))))))))
   obtain rfl := Option.some.inj h0
   exact rt_ (ret_ rfl rfl rfl rfl rfl tv)
  ·replace h0 := inb c2 h0
   refine seq_ (reg_ (st (c_ (cp_ ⟨tv, tv⟩ rfl tv) (st (c_ (cp_ ⟨tv, tv⟩ rfl (nl rfl)) (st (c_ (clenL (e := eDLease) (l0 := a0.list_) rfl rfl tv) (st (c_ (cp_ t3 rfl tv) (st (mv_ rfl tv (st (pg_ (u := .ptr 192 1) rfl (fun hg => (cp_ ⟨tv, tv⟩ rfl tv)) (st (pg_ (u := iV a0.next) rfl (fun hg => (cp_ ⟨(fun _ => hg), tv⟩ rfl (nl rfl))) (st (pg_ (u := .bool (a0.next == 1000000)) rfl (fun hg => (cp_ ⟨(fun _ => hg), tv, tv⟩ rfl tv)) (st (pick_ rfl rfl rfl tv (fun h => eqf h) rfl (st (mv_ rfl tv (oe_ ?_))))))))))))))))))))))
   obtain ⟨v3, e4, h0⟩ := bl h0
   refine wk_ ⟨[(1, iV a1), (2, iV a2), (3, .ptr 192 0), (6, .ptr 384 0), (24, .bool v3)], [(192, [iV a0.clock, iV a0.next, .lst 4 (a0.list_.map eDLease)]), (384, [iV 0, iV 0, .own 387 0 4 (([] : List DLease).map eDLease)])], []⟩ (fgk (by subst e4; kernel_rfl)) (ite_ (cb := v3) rfl (fun c5 => ?_) (fun c5 => ?_))
   ·replace h0 := ip c5 h0
    refine seq_ (reg_ (st (c_ (v := .agg (eDTable a0)) (cp_ ⟨tv, tv⟩ rfl (nl rfl)) (st (stp_ rfl rfl tv rfl rfl rfl (nl rfl) (st (mvc_ tv (st (mvc_ tv (oe_ (wk_ ⟨[(6, .ptr 384 0), (7, iV 0), (8, iV 9)], [(384, [iV a0.clock, iV a0.next, .lst 4 (a0.list_.map eDLease)])], []⟩ (fgk (by kernel_rfl)) ?_)))))))))))
    obtain rfl := Option.some.inj h0
    exact rt_ (ret_ rfl rfl rfl rfl rfl tv)
   ·replace h0 := inb c5 h0
    refine sk_ (bn_ (wk_ ⟨[(1, iV a1), (2, iV a2), (3, .ptr 192 0), (6, .ptr 384 0)], [(192, [iV a0.clock, iV a0.next, .lst 4 (a0.list_.map eDLease)]), (384, [iV 0, iV 0, .own 387 0 4 (([] : List DLease).map eDLease)])], []⟩ (fgk (by kernel_rfl)) (seq_ (reg_ (st (c_ (v := .agg (eDTable a0)) (cp_ ⟨tv, tv⟩ rfl (nl rfl)) ?_))))))
    obtain ⟨r6, e7, h0⟩ := bnd h0
    refine st (call0_ (r := .agg [iV r6.clock, iV r6.next, .own 0 0 4 (r6.list_.map eDLease)]) false (H111 a0 r6 e7) ⟨tv, tv⟩ rfl rfl (fun _ => (and_ rfl (and_ rfl (and_ (fl1 (fun _ => rfl)) rfl)))) (st (alloc_ (st (stp_ rfl rfl tv rfl rfl rfl (nl rfl) (oe_ (wk_ ⟨[(1, iV a1), (2, iV a2), (3, .ptr 192 0), (6, .ptr 384 0), (9, .ptr 576 0)], [(192, [iV a0.clock, iV a0.next, .lst 4 (a0.list_.map eDLease)]), (384, [iV 0, iV 0, .own 387 0 4 (([] : List DLease).map eDLease)]), (576, [iV r6.clock, iV r6.next, .own 2304 0 4 (r6.list_.map eDLease)])], []⟩ (fgk (by kernel_rfl)) (seq_ ?_))))))))
    obtain ⟨r8, e9, h0⟩ := bnd h0
    obtain ⟨r10, e11, h0⟩ := bnd h0
    obtain ⟨c12, h0⟩ := grd h0
    refine draw_ (dtake tv (c_ (cp_ ⟨tv, tv⟩ rfl tv) (⟨tv, (dtake tv (c_ (cp_ ⟨tv, tv⟩ rfl (nl rfl)) (⟨tv, (dtake tv (c_ (cp_ ⟨tv, tv⟩ rfl tv) (⟨tv, (dtake tv (c_ (cp_ ⟨tv, tv⟩ rfl (nl rfl)) (⟨tv, (dtake tv (c_ (cp_ ⟨tv, tv⟩ rfl tv) (⟨tv, (dtake tv (c_ (cp_ ⟨tv, tv⟩ rfl (nl rfl)) (⟨tv, (dtake tv (mv_ rfl tv (⟨tv, (dtake tv (c_ (cp_ ⟨tv, tv⟩ rfl tv) (⟨tv, (dtake tv (c_ (cp_ ⟨tv, tv⟩ rfl (nl rfl)) (⟨tv, (dtake tv (mv_ rfl tv (⟨tv, (dalt (call0_ (r := iV r8) false (H53 a0.clock a1 r8 e9) ⟨tv, tv, tv⟩ rfl rfl (fun _ => rfl) (dkw ⟨[(2, iV a2), (3, .ptr 192 0), (6, .ptr 384 0), (9, .ptr 576 0), (37, .ptr 576 2), (38, .own 2304 0 4 (r6.list_.map eDLease)), (39, .ptr 192 1), (40, iV a0.next), (44, iV r8), (45, .ptr 192 0), (46, iV a0.clock), (47, iV a2)], [(192, [iV a0.clock, iV a0.next, .lst 4 (a0.list_.map eDLease)]), (384, [iV 0, iV 0, .own 387 0 4 (([] : List DLease).map eDLease)]), (576, [iV r6.clock, iV r6.next, .own 2304 0 4 (r6.list_.map eDLease)])], []⟩ (fgk (by kernel_rfl)) ⟨[], ⟨⟨.inl tv, (again1 (cmv (v := iV a2) rfl tv) rfl)⟩, ⟨.inl tv, (again1 (cp_ ⟨tv, tv⟩ rfl (nl rfl)) rfl)⟩, ⟨.inl tv, (again1 (cp_ ⟨tv, tv⟩ rfl tv) rfl)⟩, ⟨.inl tv, (again1 (cp_ ⟨tv, tv⟩ rfl (nl rfl)) rfl)⟩, ⟨.inl tv, (again1 (cp_ ⟨tv, tv⟩ rfl tv) rfl)⟩, ⟨.inl tv, (again1 (cp_ ⟨tv, tv⟩ rfl (nl rfl)) rfl)⟩, ⟨.inl tv, (again1 (cp_ ⟨tv, tv⟩ rfl tv) rfl)⟩, tv⟩, tv, (dalt (call0_ (r := iV r10) false (H53 a0.clock a2 r10 e11) ⟨tv, tv, tv⟩ rfl rfl (fun _ => rfl) (dkw ⟨[(3, .ptr 192 0), (6, .ptr 384 0), (9, .ptr 576 0), (37, .ptr 576 2), (38, .own 2304 0 4 (r6.list_.map eDLease)), (39, .ptr 192 1), (40, iV a0.next), (44, iV r8), (48, iV r10)], [(192, [iV a0.clock, iV a0.next, .lst 4 (a0.list_.map eDLease)]), (384, [iV 0, iV 0, .own 387 0 4 (([] : List DLease).map eDLease)]), (576, [iV r6.clock, iV r6.next, .own 2304 0 4 (r6.list_.map eDLease)])], []⟩ (fgk (by kernel_rfl)) ⟨[], ⟨⟨.inl tv, (again1 (cp_ ⟨tv, tv⟩ rfl (nl rfl)) rfl)⟩, ⟨.inl tv, (again1 (cp_ ⟨tv, tv⟩ rfl tv) rfl)⟩, ⟨.inl tv, (again1 (cp_ ⟨tv, tv⟩ rfl (nl rfl)) rfl)⟩, ⟨.inl tv, (again1 (cp_ ⟨tv, tv⟩ rfl tv) rfl)⟩, tv⟩, tv, (dtake tv (c_ (v := .agg [iV a0.next, iV r8, iV r10, .bool false]) (cp_ ⟨tv, tv, tv, tv⟩ rfl ⟨⟨rfl, rfl, nl rfl⟩, ⟨rfl, rfl, nl rfl⟩, ⟨rfl, rfl, nl rfl⟩, tv⟩) (⟨tv, (dalt (mkS_ ⟨tv, tv⟩ ⟨⟨nl rfl, rfl, rfl⟩, tv⟩ (dk0 ⟨[], ⟨⟨.inl tv, (again1 (cp_ ⟨tv, tv⟩ rfl (nl rfl)) rfl)⟩, ⟨.inl tv, (again1 (cp_ ⟨tv, tv⟩ rfl tv) rfl)⟩, tv⟩, tv, (dalt (app_ (e := eDLease) (l0 := r6.list_) (l1 := ([(DLease.mk a0.next r8 r10 false)] : List DLease)) rfl rfl tv rfl (by decide) c12 (dk0 ⟨[], tv, tv, ?_⟩)) dstop)⟩)) dstop)⟩)))⟩)) dstop)⟩)) dstop)⟩)))⟩)))⟩)))⟩)))⟩)))⟩)))⟩)))⟩)))⟩)))⟩)))
    refine dtake tv (c_ (cp_ ⟨tv, tv⟩ rfl tv) (⟨tv, (dalt (stp_ rfl rfl tv rfl rfl rfl (nl rfl) (dk0 ⟨[], tv, tv, (dfin (wk_ ⟨[(3, .ptr 192 0), (6, .ptr 384 0), (9, .ptr 576 0)], [(192, [iV a0.clock, iV a0.next, .lst 4 (a0.list_.map eDLease)]), (384, [iV 0, iV 0, .own 387 0 4 (([] : List DLease).map eDLease)]), (576, [iV r6.clock, iV r6.next, .own 2304 0 4 ((r6.list_ ++ ([(DLease.mk a0.next r8 r10 false)] : List DLease)).map eDLease)])], []⟩ (fgk (by kernel_rfl)) (seq_ (reg_ (st (c_ (cp_ ⟨tv, tv⟩ rfl tv) (st (c_ (cp_ ⟨tv, tv⟩ rfl (nl rfl)) (st (c_ (cp_ t3 rfl tv) (st (c_ (cp_ ⟨tv, tv⟩ rfl tv) (st (stp_ rfl rfl tv rfl rfl rfl (nl rfl) (oe_ (wk_ ⟨[(3, .ptr 192 0), (6, .ptr 384 0), (9, .ptr 576 0)], [(192, [iV a0.clock, iV a0.next, .lst 4 (a0.list_.map eDLease)]), (384, [iV 0, iV 0, .own 387 0 4 (([] : List DLease).map eDLease)]), (576, [iV r6.clock, iV (IntKind.i64.wrap (r6.next + 1)), .own 2304 0 4 ((r6.list_ ++ ([(DLease.mk a0.next r8 r10 false)] : List DLease)).map eDLease)])], []⟩ (fgk (by kernel_rfl)) (seq_ (draw_ (dtake tv (c_ (v := .agg [iV r6.clock, iV (IntKind.i64.wrap (r6.next + 1)), .own 2304 0 4 ((r6.list_ ++ ([(DLease.mk a0.next r8 r10 false)] : List DLease)).map eDLease)]) (cp_ ⟨tv, tv⟩ rfl (nl rfl)) (⟨tv, (dtake tv (c_ (cp_ ⟨tv, tv⟩ rfl tv) (⟨tv, (dtake tv (c_ (cp_ ⟨tv, tv⟩ rfl (nl rfl)) (⟨tv, (dalt (stp_ rfl rfl tv rfl rfl rfl (nl rfl) (dk0 ⟨[], ⟨⟨.inl tv, (again1 (cp_ ⟨tv, tv⟩ rfl (nl rfl)) rfl)⟩, ⟨.inl tv, (again1 (cp_ ⟨tv, tv⟩ rfl tv) rfl)⟩, tv⟩, tv, (dtake tv (mv_ rfl tv (⟨tv, (dtake tv (mvc_ tv (⟨tv, (dfin (wk_ ⟨[(6, .ptr 384 0), (7, iV a0.next), (8, iV 0)], [(384, [iV r6.clock, iV (IntKind.i64.wrap (r6.next + 1)), .lst 4 ((r6.list_ ++ ([(DLease.mk a0.next r8 r10 false)] : List DLease)).map eDLease)])], []⟩ (fgzk [2304] (by kernel_rfl)) ?_))⟩)))⟩)))⟩)) dstop)⟩)))⟩)))⟩)))))))))))))))))))))⟩)) dstop)⟩))
    obtain rfl := Option.some.inj h0
    exact rt_ (ret_ rfl rfl rfl rfl rfl tv)

/- loop.example/g00149/spec.l08Find -/
def c92_r0 : List Ins := [⟨some 2, .box (.t 0), none⟩,
⟨some 4, .p (.mv (.c (iV 0))), none⟩]
def c92_r1 : List Ins := [⟨some 5, .p (.mv (.c (iV 0))), none⟩]
def c92_r2 : List Ins := [(iQ 6 (.mv (.t 5))),
(iQ 7 (.fieldA (.t 2) 2)),
(iQ 8 (.load (.t 7) 1 false)),
(iQ 9 (.len (.t 8))),
(iQ 10 (.bin .lss (.t 6) (.t 9)))]
def c92_r3 : List Ins := [(iQ 13 (.fieldA (.t 2) 2)),
(iQ 14 (.load (.t 13) 1 false)),
(iQ 15 (.mv (.t 5))),
(iQ 16 (.idxA (.t 14) (.t 15) 4)),
(iQ 17 (.fieldA (.t 16) 0)),
(iQ 18 (.load (.t 17) 1 false)),
(iQ 19 (.mv (.t 1))),
(iQ 20 (.bin .eql (.t 18) (.t 19)))]
def c92_r4 : List Ins := [(iQ 21 (.mv (.t 5))),
(iQ 4 (.mv (.t 21)))]
def c92_r5 : List Ins := [(iQ 11 (.mv (.t 5))),
⟨some 12, .p (.bin .add (.t 11) (.c (iV 1))), none⟩,
(iQ 5 (.mv (.t 12)))]
def c92_l0 : IR := (.seq (.seq (.reg c92_r2) (.ite (.t 10) .skip (.exit 0))) (.seq (.block 1 (.seq (.reg c92_r3) (.ite (.t 20) (.seq (.reg c92_r4) .ret) .skip))) (.reg c92_r5)))
def c92_r6 : List Ins := [⟨some 4, .p (.mv (.c (iV (-1)))), none⟩]
def c92 : XFn := { np := 2, nt := 22, res := [.t 4], body := (.seq (.reg c92_r0) (.seq (.seq (.reg c92_r1) (.block 0 (.loop c92_l0))) (.seq (.reg c92_r6) .ret))) }
def K92 (C : CRel) : Prop := ∀ (a0 : DTable) (a1 : Int) (r : Int), g92 a0 a1 = some r → C 92 ⟨[.agg (eDTable a0), iV a1], []⟩ ⟨iV r, [], []⟩
theorem F92 {C : CRel}  (a0 : DTable) (a1 : Int) (r : Int) (h0 : g92 a0 a1 = some r) : FnOK C c92 ⟨[.agg (eDTable a0), iV a1], []⟩ ⟨iV r, [], []⟩ := by
 refine fn_ (nl rfl) (seq_ (reg_ (st (box_ rfl tv rfl (st (mvc_ tv (oe_ (wk_ ⟨[(1, iV a1), (2, .ptr 128 0)], [(128, [iV a0.clock, iV a0.next, .lst 4 (a0.list_.map eDLease)])], []⟩ (fgk (by kernel_rfl)) (seq_ (seq_ (reg_ (st (mvc_ tv (oe_ (wk_ ⟨[(1, iV a1), (2, .ptr 128 0), (5, iV 0)], [(128, [iV a0.clock, iV a0.next, .lst 4 (a0.list_.map eDLease)])], []⟩ (fgk (by kernel_rfl)) (block_ ?_))))))))))))))))
 obtain ⟨r15, e16, h0⟩ := bnd h0
 refine loop_ (R := (fun S => .inl () = r15 ∧ S = ⟨[], [], []⟩)) (g92_l0 a0 a1) (fun s S => match s with | p5 => S = ⟨[(1, iV a1), (2, .ptr 128 0), (5, iV p5)], [(128, [iV a0.clock, iV a0.next, .lst 4 (a0.list_.map eDLease)])], []⟩) e16 ⟨[(1, iV a1), (2, .ptr 128 0), (5, iV 0)], [(128, [iV a0.clock, iV a0.next, .lst 4 (a0.list_.map eDLease)])], []⟩ (fgk (by kernel_rfl)) rfl 0 (fun _ => rfl) ?_ ?_
 ·rintro S _ hfg ⟨rfl, rfl⟩
  refine wk_ ⟨[], [], []⟩ (fglk hfg (by kernel_rfl)) (seq_ (reg_ (st (mvc_ tv (oe_ (wk_ ⟨[(4, iV (-1))], [], []⟩ (fgk (by kernel_rfl)) ?_))))))
  obtain rfl := Option.some.inj h0
  exact rt_ (ret_ rfl rfl rfl rfl rfl tv)
 ·rintro p5 o1 _ K1 rfl h1 hx1 hK1 hE1 hR1
  refine seq_ (seq_ (reg_ (st (mv_ rfl tv (st (c_ (cp_ ⟨tv, tv⟩ rfl tv) (st (c_ (cp_ ⟨tv, tv⟩ rfl (nl rfl)) (st (c_ (clenL (e := eDLease) (l0 := a0.list_) rfl rfl tv) (st (c_ (cp_ t3 rfl tv) (oe_ (wk_ ⟨[(1, iV a1), (2, .ptr 128 0), (5, iV p5), (10, .bool (decide (p5 < (a0.list_.length : Int))))], [(128, [iV a0.clock, iV a0.next, .lst 4 (a0.list_.map eDLease)])], []⟩ (fgk (by kernel_rfl)) (ite_ (cb := (decide (p5 < (a0.list_.length : Int)))) rfl (fun c11 => ?_) (fun c11 => ?_))))))))))))))))
  ·replace h1 := ip c11 h1
   refine sk_ (wk_ ⟨[(1, iV a1), (2, .ptr 128 0), (5, iV p5)], [(128, [iV a0.clock, iV a0.next, .lst 4 (a0.list_.map eDLease)])], []⟩ (fgk (by kernel_rfl)) (seq_ (block_ (seq_ (reg_ (st (c_ (cp_ ⟨tv, tv⟩ rfl tv) (st (c_ (cp_ ⟨tv, tv⟩ rfl (nl rfl)) (st (mv_ rfl tv ?_)))))))))))
   obtain ⟨y12, e13, h1⟩ := bnd h1
   refine st (c_ (cidxL (e := eDLease) (y := y12) rfl rfl tv rfl rfl tv e13) (st (c_ (cp_ ⟨tv, tv⟩ rfl (nl rfl)) (st (c_ (cp_ ⟨tv, tv⟩ rfl (nl rfl)) (st (mv_ rfl tv (st (c_ (cp_ t3 rfl tv) (oe_ (wk_ ⟨[(1, iV a1), (2, .ptr 128 0), (5, iV p5), (20, .bool (y12.id == a1))], [(128, [iV a0.clock, iV a0.next, .lst 4 (a0.list_.map eDLease)])], []⟩ (fgk (by kernel_rfl)) (ite_ (cb := (y12.id == a1)) rfl (fun c14 => ?_) (fun c14 => ?_)))))))))))))
   ·replace h1 := ip c14 h1
    refine seq_ (reg_ (st (mv_ rfl tv (st (mv_ rfl tv (oe_ (wk_ ⟨[(4, iV p5)], [], []⟩ (fgk (by kernel_rfl)) ?_)))))))
    obtain rfl := Option.some.inj h1
    obtain rfl := hx1 _ rfl
    obtain rfl := Option.some.inj h0
    exact rt_ (hR1 _ (ret_ rfl rfl rfl rfl rfl tv))
   ·replace h1 := inb c14 h1
    refine sk_ (bn_ (wk_ ⟨[(1, iV a1), (2, .ptr 128 0), (5, iV p5)], [(128, [iV a0.clock, iV a0.next, .lst 4 (a0.list_.map eDLease)])], []⟩ (fgk (by kernel_rfl)) (reg_ (st (mv_ rfl tv (st (c_ (cp_ t3 rfl tv) (st (mv_ rfl tv (oe_ ?_))))))))))
    obtain rfl := Option.some.inj h1
    exact hK1 _ rfl _ ⟨[(1, iV a1), (2, .ptr 128 0), (5, iV (IntKind.i64.wrap (p5 + 1)))], [(128, [iV a0.clock, iV a0.next, .lst 4 (a0.list_.map eDLease)])], []⟩ (fgk (by kernel_rfl)) rfl
  ·replace h1 := inb c11 h1
   obtain rfl := Option.some.inj h1
   obtain rfl := hx1 _ rfl
   refine exQ rfl ?_
   exact hE1 _ ⟨[], [], []⟩ (fgk (by kernel_rfl)) ⟨rfl, rfl⟩

/- loop.example/g00149/spec.l08Revoke -/
def c74_r0 : List Ins := [⟨some 2, .box (.t 0), none⟩,
⟨some 4, .alloc [(iV 0), (iV 0), (.own 259 0 4 [])], none⟩,
⟨some 5, .p (.mv (.c (iV 0))), none⟩]
def c74_r1 : List Ins := [(iQ 8 (.load (.t 2) 3 true)),
(iQ 9 (.mv (.t 1))),
⟨some 10, .call 92 [(.t 8), (.t 9)], none⟩,
(iQ 6 (.mv (.t 10)))]
def c74_r2 : List Ins := [(iQ 11 (.mv (.t 6))),
⟨some 12, .p (.bin .lss (.t 11) (.c (iV 0))), none⟩]
def c74_r3 : List Ins := [(iQ 13 (.load (.t 2) 3 true)),
⟨none, .store (.t 4) (.t 13) 3, none⟩,
⟨some 5, .p (.mv (.c (iV 5))), none⟩]
def c74_r4 : List Ins := [(iQ 14 (.load (.t 2) 3 true)),
⟨some 15, .call 111 [(.t 14)], none⟩,
⟨some 7, .alloc [(iV 0), (iV 0), (.own 451 0 4 [])], none⟩,
⟨none, .store (.t 7) (.t 15) 3, none⟩]
def c74_r5 : List Ins := [(iQ 16 (.fieldA (.t 7) 2)),
(iQ 17 (.load (.t 16) 1 false)),
(iQ 18 (.mv (.t 6))),
(iQ 19 (.idxA (.t 17) (.t 18) 4)),
(iQ 20 (.fieldA (.t 19) 3)),
⟨none, .store (.t 20) (.c (.bool true)) 1, none⟩]
def c74_r6 : List Ins := [(iQ 21 (.load (.t 7) 3 true)),
⟨none, .store (.t 4) (.t 21) 3, none⟩,
⟨some 5, .p (.mv (.c (iV 0))), none⟩]
def c74 : XFn := { np := 2, nt := 22, res := [.cell 4 3 true, .t 5], body := (.seq (.reg c74_r0) (.seq (.reg c74_r1) (.seq (.seq (.reg c74_r2) (.ite (.t 12) (.seq (.reg c74_r3) .ret) .skip)) (.seq (.reg c74_r4) (.seq (.reg c74_r5) (.seq (.reg c74_r6) .ret)))))) }
def K74 (C : CRel) : Prop := ∀ (a0 : DTable) (a1 : Int) (r : DTable × Int), g74 a0 a1 = some r → C 74 ⟨[.agg (eDTable a0), iV a1], []⟩ ⟨.tup [.agg [iV r.1.clock, iV r.1.next, .lst 4 (r.1.list_.map eDLease)], iV r.2], [], []⟩
theorem F74 {C : CRel} (H92 : K92 C) (H111 : K111 C) (a0 : DTable) (a1 : Int) (r : DTable × Int) (h0 : g74 a0 a1 = some r) : FnOK C c74 ⟨[.agg (eDTable a0), iV a1], []⟩ ⟨.tup [.agg [iV r.1.clock, iV r.1.next, .lst 4 (r.1.list_.map eDLease)], iV r.2], [], []⟩ := by
 refine fn_ (nl rfl) (seq_ (reg_ (st (box_ rfl tv rfl (st (alloc_ (st (mvc_ tv (oe_ (wk_ ⟨[(1, iV a1), (2, .ptr 128 0), (4, .ptr 256 0)], [(128, [iV a0.clock, iV a0.next, .lst 4 (a0.list_.map eDLease)]), (256, [iV 0, iV 0, .own 259 0 4 (([] : List DLease).map eDLease)])], []⟩ (fgk (by kernel_rfl)) (seq_ (reg_ (st (c_ (v := .agg (eDTable a0)) (cp_ ⟨tv, tv⟩ rfl (nl rfl)) (st (mv_ rfl tv ?_))))))))))))))))
 obtain ⟨r1, e2, h0⟩ := bnd h0
 refine st (call0_ (r := iV r1) false (H92 a0 a1 r1 e2) ⟨tv, tv, tv⟩ rfl rfl (fun _ => rfl) (st (mv_ rfl tv (oe_ (wk_ ⟨[(2, .ptr 128 0), (4, .ptr 256 0), (6, iV r1)], [(128, [iV a0.clock, iV a0.next, .lst 4 (a0.list_.map eDLease)]), (256, [iV 0, iV 0, .own 259 0 4 (([] : List DLease).map eDLease)])], []⟩ (fgk (by kernel_rfl)) (seq_ (seq_ (reg_ (st (mv_ rfl tv (st (c_ (cp_ t3 rfl tv) (oe_ (wk_ ⟨[(2, .ptr 128 0), (4, .ptr 256 0), (6, iV r1), (12, .bool (decide (r1 < 0)))], [(128, [iV a0.clock, iV a0.next, .lst 4 (a0.list_.map eDLease)]), (256, [iV 0, iV 0, .own 259 0 4 (([] : List DLease).map eDLease)])], []⟩ (fgk (by kernel_rfl)) (ite_ (cb := (decide (r1 < 0))) rfl (fun c3 => ?_) (fun c3 => ?_))))))))))))))))
 ·replace h0 := ip c3 h0
  refine seq_ (reg_ (st (c_ (v := .agg (eDTable a0)) (cp_ ⟨tv, tv⟩ rfl (nl rfl)) (st (stp_ rfl rfl tv rfl rfl rfl (nl rfl) (st (mvc_ tv (oe_ (wk_ ⟨[(4, .ptr 256 0), (5, iV 5)], [(256, [iV a0.clock, iV a0.next, .lst 4 (a0.list_.map eDLease)])], []⟩ (fgk (by kernel_rfl)) ?_)))))))))
  obtain rfl := Option.some.inj h0
  exact rt_ (ret_ rfl rfl rfl rfl rfl tv)
 ·replace h0 := inb c3 h0
  refine sk_ (wk_ ⟨[(2, .ptr 128 0), (4, .ptr 256 0), (6, iV r1)], [(128, [iV a0.clock, iV a0.next, .lst 4 (a0.list_.map eDLease)]), (256, [iV 0, iV 0, .own 259 0 4 (([] : List DLease).map eDLease)])], []⟩ (fgk (by kernel_rfl)) (seq_ (reg_ (st (c_ (v := .agg (eDTable a0)) (cp_ ⟨tv, tv⟩ rfl (nl rfl)) ?_)))))
  obtain ⟨r4, e5, h0⟩ := bnd h0
  refine st (call0_ (r := .agg [iV r4.clock, iV r4.next, .own 0 0 4 (r4.list_.map eDLease)]) false (H111 a0 r4 e5) ⟨tv, tv⟩ rfl rfl (fun _ => (and_ rfl (and_ rfl (and_ (fl1 (fun _ => rfl)) rfl)))) (st (alloc_ (st (stp_ rfl rfl tv rfl rfl rfl (nl rfl) (oe_ (wk_ ⟨[(4, .ptr 256 0), (6, iV r1), (7, .ptr 448 0)], [(256, [iV 0, iV 0, .own 259 0 4 (([] : List DLease).map eDLease)]), (448, [iV r4.clock, iV r4.next, .own 960 0 4 (r4.list_.map eDLease)])], []⟩ (fgk (by kernel_rfl)) (seq_ (reg_ (st (c_ (cp_ ⟨tv, tv⟩ rfl tv) (st (c_ (cp_ ⟨tv, tv⟩ rfl (nl rfl)) (st (mv_ rfl tv ?_)))))))))))))))
  obtain ⟨y6, e7, h0⟩ := bnd h0
  refine st (c_ (cidxO (e := eDLease) (y := y6) rfl rfl tv rfl rfl tv e7) (st (c_ (cp_ ⟨tv, tv⟩ rfl tv) ?_)))
  obtain ⟨y8, e9, h0⟩ := bnd h0
  refine st (sto_ (y' := (DLease.mk y8.id y8.until_ y8.cap true)) rfl rfl tv rfl rfl rfl rfl e9 (nl rfl) rfl rfl rfl rfl (oe_ (wk_ ⟨[(4, .ptr 256 0), (7, .ptr 448 0)], [(256, [iV 0, iV 0, .own 259 0 4 (([] : List DLease).map eDLease)]), (448, [iV r4.clock, iV r4.next, .own 960 0 4 ((r4.list_.set r1.toNat (DLease.mk y8.id y8.until_ y8.cap true)).map eDLease)])], []⟩ (fg ⟨rfl, rfl, tv⟩ ⟨rfl, (congrArg (fun z => some (([iV r4.clock, iV r4.next, .own 960 0 4 z] : List V))) overlay_map), tv⟩) (seq_ (reg_ (st (c_ (v := .agg [iV r4.clock, iV r4.next, .own 960 0 4 ((r4.list_.set r1.toNat (DLease.mk y8.id y8.until_ y8.cap true)).map eDLease)]) (cp_ ⟨tv, tv⟩ rfl (nl rfl)) (st (stp_ rfl rfl tv rfl rfl rfl (nl rfl) (st (mvc_ tv (oe_ (wk_ ⟨[(4, .ptr 256 0), (5, iV 0)], [(256, [iV r4.clock, iV r4.next, .lst 4 ((r4.list_.set r1.toNat (DLease.mk y8.id y8.until_ y8.cap true)).map eDLease)])], []⟩ (fgzk [960] (by kernel_rfl)) ?_)))))))))))))
  obtain rfl := Option.some.inj h0
  exact rt_ (ret_ rfl rfl rfl rfl rfl tv)

/- loop.example/g00149/spec.l08Renew -/
def c79_r0 : List Ins := [⟨some 3, .box (.t 0), none⟩,
⟨some 6, .alloc [(iV 0), (iV 0), (.own 387 0 4 [])], none⟩,
⟨some 7, .p (.mv (.c (iV 0))), none⟩]
def c79_r1 : List Ins := [(iQ 10 (.load (.t 3) 3 true)),
(iQ 11 (.mv (.t 1))),
⟨some 12, .call 92 [(.t 10), (.t 11)], none⟩,
(iQ 8 (.mv (.t 12)))]
def c79_r2 : List Ins := [(iQ 14 (.mv (.t 2))),
⟨some 15, .p (.bin .lss (.t 14) (.c (iV 1))), none⟩,
(iQ 13 (.mv (.t 15)))]
def c79_r3 : List Ins := [(iQ 16 (.load (.t 3) 3 true)),
⟨none, .store (.t 6) (.t 16) 3, none⟩,
⟨some 7, .p (.mv (.c (iV 4))), none⟩]
def c79_r4 : List Ins := [(iQ 18 (.mv (.t 8))),
⟨some 19, .p (.bin .lss (.t 18) (.c (iV 0))), none⟩,
(iQ 17 (.mv (.t 19)))]
def c79_r5 : List Ins := [(iQ 20 (.load (.t 3) 3 true)),
⟨none, .store (.t 6) (.t 20) 3, none⟩,
⟨some 7, .p (.mv (.c (iV 5))), none⟩]
def c79_r6 : List Ins := [(iQ 22 (.fieldA (.t 3) 2)),
(iQ 23 (.load (.t 22) 1 false)),
(iQ 24 (.mv (.t 8))),
(iQ 25 (.idxA (.t 23) (.t 24) 4)),
(iQ 26 (.fieldA (.t 25) 3)),
(iQ 27 (.load (.t 26) 1 false)),
(iQ 21 (.mv (.t 27)))]
def c79_r7 : List Ins := [(iQ 28 (.load (.t 3) 3 true)),
⟨none, .store (.t 6) (.t 28) 3, none⟩,
⟨some 7, .p (.mv (.c (iV 13))), none⟩]
def c79_r8 : List Ins := [(iQ 29 (.load (.t 3) 3 true)),
⟨some 30, .call 111 [(.t 29)], none⟩,
⟨some 9, .alloc [(iV 0), (iV 0), (.own 579 0 4 [])], none⟩,
⟨none, .store (.t 9) (.t 30) 3, none⟩]
def c79_r9 : DP := (.take (iQ 31 (.fieldA (.t 9) 2))
(.take (iQ 32 (.load (.t 31) 1 false))
(.take (iQ 33 (.mv (.t 8)))
(.take (iQ 34 (.fieldA (.t 9) 2))
(.take (iQ 35 (.load (.t 34) 1 false))
(.take (iQ 36 (.mv (.t 8)))
(.take (iQ 37 (.idxA (.t 35) (.t 36) 4))
(.take (iQ 38 (.fieldA (.t 37) 2))
(.take (iQ 39 (.load (.t 38) 1 false))
(.take (iQ 40 (.fieldA (.t 3) 0))
(.take (iQ 41 (.load (.t 40) 1 false))
(.take (iQ 42 (.mv (.t 2)))
(.alt [(iQ 39 (.load (.t 38) 1 false)), (iQ 38 (.fieldA (.t 37) 2)), (iQ 37 (.idxA (.t 35) (.t 36) 4)), (iQ 36 (.mv (.t 8))), (iQ 35 (.load (.t 34) 1 false)), (iQ 34 (.fieldA (.t 9) 2)), (iQ 33 (.mv (.t 8))), (iQ 32 (.load (.t 31) 1 false)), (iQ 31 (.fieldA (.t 9) 2))] ⟨some 43, .call 53 [(.t 41), (.t 42)], none⟩
(.take (iQ 44 (.mn (.t 39) (.t 43)))
(.take (iQ 45 (.idxA (.t 32) (.t 33) 4))
(.take (iQ 46 (.fieldA (.t 45) 1))
(.alt [] ⟨none, .store (.t 46) (.t 44) 1, none⟩
.fin
.stop))))
.stop)))))))))))))
def c79_r10 : List Ins := [(iQ 47 (.load (.t 9) 3 true)),
⟨none, .store (.t 6) (.t 47) 3, none⟩,
⟨some 7, .p (.mv (.c (iV 0))), none⟩]
def c79 : XFn := { np := 3, nt := 48, res := [.cell 6 3 true, .t 7], body := (.seq (.reg c79_r0) (.seq (.reg c79_r1) (.seq (.block 0 (.seq (.reg c79_r2) (.ite (.t 13) (.seq (.reg c79_r3) .ret) (.seq (.reg c79_r4) (.ite (.t 17) (.seq (.reg c79_r5) .ret) (.seq (.reg c79_r6) (.ite (.t 21) (.seq (.reg c79_r7) .ret) .skip))))))) (.seq (.reg c79_r8) (.seq (.draw c79_r9) (.seq (.reg c79_r10) .ret)))))) }
def K79 (C : CRel) : Prop := ∀ (a0 : DTable) (a1 : Int) (a2 : Int) (r : DTable × Int), g79 a0 a1 a2 = some r → C 79 ⟨[.agg (eDTable a0), iV a1, iV a2], []⟩ ⟨.tup [.agg [iV r.1.clock, iV r.1.next, .lst 4 (r.1.list_.map eDLease)], iV r.2], [], []⟩
theorem F79 {C : CRel} (H53 : K53 C) (H92 : K92 C) (H111 : K111 C) (a0 : DTable) (a1 : Int) (a2 : Int) (r : DTable × Int) (h0 : g79 a0 a1 a2 = some r) : FnOK C c79 ⟨[.agg (eDTable a0), iV a1, iV a2], []⟩ ⟨.tup [.agg [iV r.1.clock, iV r.1.next, .lst 4 (r.1.list_.map eDLease)], iV r.2], [], []⟩ := by
 refine fn_ (nl rfl) (seq_ (reg_ (st (box_ rfl tv rfl (st (alloc_ (st (mvc_ tv (oe_ (wk_ ⟨[(1, iV a1), (2, iV a2), (3, .ptr 192 0), (6, .ptr 384 0)], [(192, [iV a0.clock, iV a0.next, .lst 4 (a0.list_.map eDLease)]), (384, [iV 0, iV 0, .own 387 0 4 (([] : List DLease).map eDLease)])], []⟩ (fgk (by kernel_rfl)) (seq_ (reg_ (st (c_ (v := .agg (eDTable a0)) (cp_ ⟨tv, tv⟩ rfl (nl rfl)) (st (mv_ rfl tv ?_))))))))))))))))
 obtain ⟨r1, e2, h0⟩ := bnd h0
 refine st (call0_ (r := iV r1) false (H92 a0 a1 r1 e2) ⟨tv, tv, tv⟩ rfl rfl (fun _ => rfl) (st (mv_ rfl tv (oe_ (wk_ ⟨[(2, iV a2), (3, .ptr 192 0), (6, .ptr 384 0), (8, iV r1)], [(192, [iV a0.clock, iV a0.next, .lst 4 (a0.list_.map eDLease)]), (384, [iV 0, iV 0, .own 387 0 4 (([] : List DLease).map eDLease)])], []⟩ (fgk (by kernel_rfl)) (seq_ (block_ (seq_ (reg_ (st (mv_ rfl tv (st (c_ (cp_ t3 rfl tv) (st (mv_ rfl tv (oe_ (wk_ ⟨[(2, iV a2), (3, .ptr 192 0), (6, .ptr 384 0), (8, iV r1), (13, .bool (decide (a2 < 1)))], [(192, [iV a0.clock, iV a0.next, .lst 4 (a0.list_.map eDLease)]), (384, [iV 0, iV 0, .own 387 0 4 (([] : List DLease).map eDLease)])], []⟩ (fgk (by kernel_rfl)) (ite_ (cb := (decide (a2 < 1))) rfl (fun c3 => ?_) (fun c3 => ?_)))))))))))))))))))
 ·replace h0 := ip c3 h0
  refine seq_ (reg_ (st (c_ (v := .agg (eDTable a0)) (cp_ ⟨tv, tv⟩ rfl (nl rfl)) (st (stp_ rfl rfl tv rfl rfl rfl (nl rfl) (st (mvc_ tv (oe_ (wk_ ⟨[(6, .ptr 384 0), (7, iV 4)], [(384, [iV a0.clock, iV a0.next, .lst 4 (a0.list_.map eDLease)])], []⟩ (fgk (by kernel_rfl)) ?_)))))))))
  obtain rfl := Option.some.inj h0
  exact rt_ (ret_ rfl rfl rfl rfl rfl tv)
 ·replace h0 := inb c3 h0
  refine seq_ (reg_ (st (mv_ rfl tv (st (c_ (cp_ t3 rfl tv) (st (mv_ rfl tv (oe_ (wk_ ⟨[(2, iV a2), (3, .ptr 192 0), (6, .ptr 384 0), (8, iV r1), (17, .bool (decide (r1 < 0)))], [(192, [iV a0.clock, iV a0.next, .lst 4 (a0.list_.map eDLease)]), (384, [iV 0, iV 0, .own 387 0 4 (([] : List DLease).map eDLease)])], []⟩ (fgk (by kernel_rfl)) (ite_ (cb := (decide (r1 < 0))) rfl (fun c4 => ?_) (fun c4 => ?_)))))))))))
  ·replace h0 := ip c4 h0
   refine seq_ (reg_ (st (c_ (v := .agg (eDTable a0)) (cp_ ⟨tv, tv⟩ rfl (nl rfl)) (st (stp_ rfl rfl tv rfl rfl rfl (nl rfl) (st (mvc_ tv (oe_ (wk_ ⟨[(6, .ptr 384 0), (7, iV 5)], [(384, [iV a0.clock, iV a0.next, .lst 4 (a0.list_.map eDLease)])], []⟩ (fgk (by kernel_rfl)) ?_)))))))))
   obtain rfl := Option.some.inj h0
   exact rt_ (ret_ rfl rfl rfl rfl rfl tv)
  ·replace h0 := inb c4 h0
   refine seq_ (reg_ (st (c_ (cp_ ⟨tv, tv⟩ rfl tv) (st (c_ (cp_ ⟨tv, tv⟩ rfl (nl rfl)) (st (mv_ rfl tv ?_)))))))
   obtain ⟨y5, e6, h0⟩ := bnd h0
   refine st (c_ (cidxL (e := eDLease) (y := y5) rfl rfl tv rfl rfl tv e6) (st (c_ (cp_ ⟨tv, tv⟩ rfl (nl rfl)) (st (c_ (cp_ ⟨tv, tv⟩ rfl (nl rfl)) (st (mv_ rfl tv (oe_ (wk_ ⟨[(2, iV a2), (3, .ptr 192 0), (6, .ptr 384 0), (8, iV r1), (21, .bool y5.queued)], [(192, [iV a0.clock, iV a0.next, .lst 4 (a0.list_.map eDLease)]), (384, [iV 0, iV 0, .own 387 0 4 (([] : List DLease).map eDLease)])], []⟩ (fgk (by kernel_rfl)) (ite_ (cb := y5.queued) rfl (fun c7 => ?_) (fun c7 => ?_)))))))))))
   ·replace h0 := ip c7 h0
    refine seq_ (reg_ (st (c_ (v := .agg (eDTable a0)) (cp_ ⟨tv, tv⟩ rfl (nl rfl)) (st (stp_ rfl rfl tv rfl rfl rfl (nl rfl) (st (mvc_ tv (oe_ (wk_ ⟨[(6, .ptr 384 0), (7, iV 13)], [(384, [iV a0.clock, iV a0.next, .lst 4 (a0.list_.map eDLease)])], []⟩ (fgk (by kernel_rfl)) ?_)))))))))
    obtain rfl := Option.some.inj h0
    exact rt_ (ret_ rfl rfl rfl rfl rfl tv)
   ·replace h0 := inb c7 h0
    refine sk_ (bn_ (wk_ ⟨[(2, iV a2), (3, .ptr 192 0), (6, .ptr 384 0), (8, iV r1)], [(192, [iV a0.clock, iV a0.next, .lst 4 (a0.list_.map eDLease)]), (384, [iV 0, iV 0, .own 387 0 4 (([] : List DLease).map eDLease)])], []⟩ (fgk (by kernel_rfl)) (seq_ (reg_ (st (c_ (v := .agg (eDTable a0)) (cp_ ⟨tv, tv⟩ rfl (nl rfl)) ?_))))))
    obtain ⟨r8, e9, h0⟩ := bnd h0
    refine st (call0_ (r := .agg [iV r8.clock, iV r8.next, .own 0 0 4 (r8.list_.map eDLease)]) false (H111 a0 r8 e9) ⟨tv, tv⟩ rfl rfl (fun _ => (and_ rfl (and_ rfl (and_ (fl1 (fun _ => rfl)) rfl)))) (st (alloc_ (st (stp_ rfl rfl tv rfl rfl rfl (nl rfl) (oe_ (wk_ ⟨[(2, iV a2), (3, .ptr 192 0), (6, .ptr 384 0), (8, iV r1), (9, .ptr 576 0)], [(192, [iV a0.clock, iV a0.next, .lst 4 (a0.list_.map eDLease)]), (384, [iV 0, iV 0, .own 387 0 4 (([] : List DLease).map eDLease)]), (576, [iV r8.clock, iV r8.next, .own 1920 0 4 (r8.list_.map eDLease)])], []⟩ (fgk (by kernel_rfl)) (seq_ ?_))))))))
    obtain ⟨y10, e11, h0⟩ := bnd h0
    obtain ⟨y12, e13, h0⟩ := bnd h0
    obtain ⟨r14, e15, h0⟩ := bnd h0
    refine draw_ (dtake tv (c_ (cp_ ⟨tv, tv⟩ rfl tv) (⟨tv, (dtake tv (c_ (cp_ ⟨tv, tv⟩ rfl (nl rfl)) (⟨tv, (dtake tv (mv_ rfl tv (⟨tv, (dtake tv (c_ (cp_ ⟨tv, tv⟩ rfl tv) (⟨tv, (dtake tv (c_ (cp_ ⟨tv, tv⟩ rfl (nl rfl)) (⟨tv, (dtake tv (mv_ rfl tv (⟨tv, (dtake tv (c_ (cidxO (e := eDLease) (y := y10) rfl rfl tv rfl rfl tv e11) (⟨tv, (dtake tv (c_ (cp_ ⟨tv, tv⟩ rfl tv) (⟨tv, (dtakeO (c_ (cloadO (e := eDLease) (y := y12) (v := iV y12.cap) rfl rfl tv rfl rfl e13 rfl (nl rfl) rfl) (⟨⟨(again1 (cloadO (e := eDLease) (y := y12) (v := iV y12.cap) rfl rfl tv rfl rfl e13 rfl (nl rfl) rfl) rfl), tv⟩, (dtake tv (c_ (cp_ ⟨tv, tv⟩ rfl tv) (⟨⟨(again1 (cloadO (e := eDLease) (y := y12) (v := iV y12.cap) rfl rfl tv rfl rfl e13 rfl (nl rfl) rfl) rfl), tv⟩, (dtake tv (c_ (cp_ ⟨tv, tv⟩ rfl (nl rfl)) (⟨⟨(again1 (cloadO (e := eDLease) (y := y12) (v := iV y12.cap) rfl rfl tv rfl rfl e13 rfl (nl rfl) rfl) rfl), tv⟩, (dtake tv (mv_ rfl tv (⟨⟨(again1 (cloadO (e := eDLease) (y := y12) (v := iV y12.cap) rfl rfl tv rfl rfl e13 rfl (nl rfl) rfl) rfl), tv⟩, (dalt (call0_ (r := iV r14) false (H53 a0.clock a2 r14 e15) ⟨tv, tv, tv⟩ rfl rfl (fun _ => rfl) (dkw ⟨[(6, .ptr 384 0), (8, iV r1), (9, .ptr 576 0), (31, .ptr 576 2), (32, .own 1920 0 4 (r8.list_.map eDLease)), (33, iV r1), (34, .ptr 576 2), (35, .own 1920 0 4 (r8.list_.map eDLease)), (36, iV r1), (37, .optr 1920 4 (0 + r1.toNat) 0), (38, .optr 1920 4 (0 + r1.toNat) 2), (39, iV y12.cap), (43, iV r14)], [(384, [iV 0, iV 0, .own 387 0 4 (([] : List DLease).map eDLease)]), (576, [iV r8.clock, iV r8.next, .own 1920 0 4 (r8.list_.map eDLease)])], []⟩ (fgk (by kernel_rfl)) ⟨[(iQ 39 (.load (.t 38) 1 false))], ⟨⟨.inr (.head _), (again1 (cloadO (e := eDLease) (y := y12) (v := iV y12.cap) rfl rfl tv rfl rfl e13 rfl (nl rfl) rfl) rfl)⟩, ⟨.inl tv, (again1 (cp_ ⟨tv, tv⟩ rfl tv) rfl)⟩, ⟨.inl tv, (again1 (cidxO (e := eDLease) (y := y10) rfl rfl tv rfl rfl tv e11) rfl)⟩, ⟨.inl tv, (again1 (cmv (v := iV r1) rfl tv) rfl)⟩, ⟨.inl tv, (again1 (cp_ ⟨tv, tv⟩ rfl (nl rfl)) rfl)⟩, ⟨.inl tv, (again1 (cp_ ⟨tv, tv⟩ rfl tv) rfl)⟩, ⟨.inl tv, (again1 (cmv (v := iV r1) rfl tv) rfl)⟩, ⟨.inl tv, (again1 (cp_ ⟨tv, tv⟩ rfl (nl rfl)) rfl)⟩, ⟨.inl tv, (again1 (cp_ ⟨tv, tv⟩ rfl tv) rfl)⟩, tv⟩, ⟨(again1 (cloadO (e := eDLease) (y := y12) (v := iV y12.cap) rfl rfl tv rfl rfl e13 rfl (nl rfl) rfl) rfl), tv⟩, (dtake tv (c_ (cp_ ⟨tv, tv, tv⟩ rfl rfl) (⟨⟨(again1 (cloadO (e := eDLease) (y := y12) (v := iV y12.cap) rfl rfl tv rfl rfl e13 rfl (nl rfl) rfl) rfl), tv⟩, (dtake tv (c_ (cidxO (e := eDLease) (y := y10) rfl rfl tv rfl rfl tv e11) (⟨⟨(again1 (cloadO (e := eDLease) (y := y12) (v := iV y12.cap) rfl rfl tv rfl rfl e13 rfl (nl rfl) rfl) rfl), tv⟩, ?_⟩)))⟩)))⟩)) dstop)⟩)))⟩)))⟩)))⟩)))⟩)))⟩)))⟩)))⟩)))⟩)))⟩)))⟩)))⟩)))
    refine dtake tv (c_ (cp_ ⟨tv, tv⟩ rfl tv) (⟨⟨(again1 (cloadO (e := eDLease) (y := y12) (v := iV y12.cap) rfl rfl tv rfl rfl e13 rfl (nl rfl) rfl) rfl), tv⟩, (dalt (sto_ (y' := (DLease.mk y12.id (if r14 < y12.cap then r14 else y12.cap) y12.cap y12.queued)) rfl rfl tv rfl rfl rfl rfl e13 (nl rfl) rfl rfl rfl rfl (dk0 ⟨[], tv, tv, (dfin (wk_ ⟨[(6, .ptr 384 0), (9, .ptr 576 0)], [(384, [iV 0, iV 0, .own 387 0 4 (([] : List DLease).map eDLease)]), (576, [iV r8.clock, iV r8.next, .own 1920 0 4 ((r8.list_.set r1.toNat (DLease.mk y12.id (if r14 < y12.cap then r14 else y12.cap) y12.cap y12.queued)).map eDLease)])], []⟩ (fg ⟨rfl, rfl, tv⟩ ⟨rfl, (congrArg (fun z => some (([iV r8.clock, iV r8.next, .own 1920 0 4 z] : List V))) overlay_map), tv⟩) (seq_ (reg_ (st (c_ (v := .agg [iV r8.clock, iV r8.next, .own 1920 0 4 ((r8.list_.set r1.toNat (DLease.mk y12.id (if r14 < y12.cap then r14 else y12.cap) y12.cap y12.queued)).map eDLease)]) (cp_ ⟨tv, tv⟩ rfl (nl rfl)) (st (stp_ rfl rfl tv rfl rfl rfl (nl rfl) (st (mvc_ tv (oe_ (wk_ ⟨[(6, .ptr 384 0), (7, iV 0)], [(384, [iV r8.clock, iV r8.next, .lst 4 ((r8.list_.set r1.toNat (DLease.mk y12.id (if r14 < y12.cap then r14 else y12.cap) y12.cap y12.queued)).map eDLease)])], []⟩ (fgzk [1920] (by kernel_rfl)) ?_))))))))))))⟩)) dstop)⟩))
    obtain rfl := Option.some.inj h0
    exact rt_ (ret_ rfl rfl rfl rfl rfl tv)

/- (*loop.example/g00149/spec.l00Src).byte -/
def c139_r0 : List Ins := [⟨some 2, .p (.mv (.c (iV 0))), none⟩]
def c139_r1 : List Ins := [(iQ 3 (.mv (.t 0))),
(iQ 4 (.nilc (.t 3))),
(iQ 5 (.fieldA (.t 4) 1)),
(iQ 6 (.load (.t 5) 1 false)),
⟨some 7, .p (.bin .add (.t 6) (.c (iV 1))), none⟩,
(iQ 8 (.nilc (.t 3))),
(iQ 9 (.fieldA (.t 8) 1)),
⟨none, .store (.t 9) (.t 7) 1, none⟩]
def c139_r2 : DP := (.take (iQ 10 (.mv (.t 0)))
(.take (iQ 11 (.nilc (.t 10)))
(.take (iQ 12 (.fieldA (.t 11) 1))
(.take (iQ 13 (.load (.t 12) 1 false))
(.take (iQ 14 (.mv (.t 0)))
(.take (iQ 15 (.nilc (.t 14)))
(.take (iQ 16 (.fieldA (.t 15) 0))
(.take (iQ 17 (.load (.t 16) 1 false))
(.take (iQ 18 (.len (.t 17)))
(.take (iQ 19 (.bin .leq (.t 13) (.t 18)))
.fin))))))))))
def c139_r3 : DP := (.take (iQ 20 (.mv (.t 0)))
(.take (iQ 21 (.mv (.t 0)))
(.take (iQ 22 (.nilc (.t 21)))
(.take (iQ 23 (.fieldA (.t 22) 2))
(.take (iQ 24 (.load (.t 23) 1 false))
(.take ⟨some 25, .p (.bin .mul (.t 24) (.c (iV 31))), none⟩
(.take (iQ 26 (.mv (.t 0)))
(.take (iQ 27 (.nilc (.t 26)))
(.take (iQ 28 (.fieldA (.t 27) 0))
(.take (iQ 29 (.load (.t 28) 1 false))
(.take (iQ 30 (.mv (.t 0)))
(.take (iQ 31 (.nilc (.t 30)))
(.take (iQ 32 (.fieldA (.t 31) 1))
(.take (iQ 33 (.load (.t 32) 1 false))
(.take ⟨some 34, .p (.bin .sub (.t 33) (.c (iV 1))), none⟩
(.take (iQ 35 (.idxA (.t 29) (.t 34) 1))
(.take (iQ 36 (.load (.t 35) 1 false))
(.take (iQ 37 (.conv .i64 (.t 36)))
(.take (iQ 38 (.bin .add (.t 25) (.t 37)))
(.take ⟨some 39, .p (.bin .add (.t 38) (.c (iV 7))), none⟩
(.take ⟨some 40, .p (.bin .rem (.t 39) (.c (iV 2147483648))), none⟩
(.take (iQ 41 (.nilc (.t 20)))
(.take (iQ 42 (.fieldA (.t 41) 2))
(.alt [] ⟨none, .store (.t 42) (.t 40) 1, none⟩
.fin
.stop))))))))))))))))))))))))
def c139_r4 : DP := (.take (iQ 43 (.mv (.t 0)))
(.take (iQ 44 (.nilc (.t 43)))
(.take (iQ 45 (.fieldA (.t 44) 0))
(.take (iQ 46 (.load (.t 45) 1 false))
(.take (iQ 47 (.mv (.t 0)))
(.take (iQ 48 (.nilc (.t 47)))
(.take (iQ 49 (.fieldA (.t 48) 1))
(.take (iQ 50 (.load (.t 49) 1 false))
(.take ⟨some 51, .p (.bin .sub (.t 50) (.c (iV 1))), none⟩
(.take (iQ 52 (.idxA (.t 46) (.t 51) 1))
(.take (iQ 53 (.load (.t 52) 1 false))
(.take (iQ 54 (.conv .i64 (.t 53)))
(.take (iQ 2 (.mv (.t 54)))
.fin)))))))))))))
def c139_r5 : List Ins := [(iQ 55 (.mv (.t 0))),
(iQ 56 (.nilc (.t 55))),
(iQ 57 (.fieldA (.t 56) 1)),
(iQ 58 (.load (.t 57) 1 false)),
⟨some 59, .p (.bin .gtr (.t 58) (.c (iV 3000))), none⟩]
def c139_r6 : List Ins := [⟨some 2, .p (.mv (.c (iV 0))), none⟩]
def c139_r7 : List Ins := [(iQ 60 (.mv (.t 0))),
(iQ 61 (.mv (.t 0))),
(iQ 62 (.nilc (.t 61))),
(iQ 63 (.fieldA (.t 62) 2)),
(iQ 64 (.load (.t 63) 1 false)),
⟨some 65, .p (.bin .mul (.t 64) (.c (iV 1103515245))), none⟩,
⟨some 66, .p (.bin .add (.t 65) (.c (iV 12345))), none⟩,
⟨some 67, .p (.bin .rem (.t 66) (.c (iV 2147483648))), none⟩,
(iQ 68 (.nilc (.t 60))),
(iQ 69 (.fieldA (.t 68) 2)),
⟨none, .store (.t 69) (.t 67) 1, none⟩]
def c139_r8 : List Ins := [(iQ 70 (.mv (.t 0))),
(iQ 71 (.nilc (.t 70))),
(iQ 72 (.fieldA (.t 71) 2)),
(iQ 73 (.load (.t 72) 1 false)),
⟨some 74, .p (.bin .quo (.t 73) (.c (iV 65536))), none⟩,
⟨some 75, .p (.bin .rem (.t 74) (.c (iV 256))), none⟩,
(iQ 2 (.mv (.t 75)))]
def c139 : XFn := { np := 1, nt := 76, res := [.t 2], body := (.seq (.reg c139_r0) (.seq (.reg c139_r1) (.seq (.seq (.draw c139_r2) (.ite (.t 19) (.seq (.draw c139_r3) (.seq (.draw c139_r4) .ret)) .skip)) (.seq (.seq (.reg c139_r5) (.ite (.t 59) (.seq (.reg c139_r6) .ret) .skip)) (.seq (.reg c139_r7) (.seq (.reg c139_r8) .ret)))))) }
def K139 (C : CRel) : Prop := ∀ (a0 : Dl00Src) (r : Int × Dl00Src), g139 a0 = some r → C 139 ⟨[.ptr 1048576 0], [[.lst 1 (a0.code_.map eU8), iV a0.at_, iV a0.seed]]⟩ ⟨iV r.1, [[.lst 1 (r.2.code_.map eU8), iV r.2.at_, iV r.2.seed]], []⟩
theorem F139 {C : CRel}  (a0 : Dl00Src) (r : Int × Dl00Src) (h0 : g139 a0 = some r) : FnOK C c139 ⟨[.ptr 1048576 0], [[.lst 1 (a0.code_.map eU8), iV a0.at_, iV a0.seed]]⟩ ⟨iV r.1, [[.lst 1 (r.2.code_.map eU8), iV r.2.at_, iV r.2.seed]], []⟩ := by
 refine fn_ (nl rfl) (seq_ (reg_ (st (mvc_ tv (oe_ (wk_ ⟨[(0, .ptr 1048576 0)], [(1048576, [.lst 1 (a0.code_.map eU8), iV a0.at_, iV a0.seed])], []⟩ (fgk (by kernel_rfl)) (seq_ (reg_ (st (mv_ rfl tv (st (c_ (cp_ ⟨tv, tv⟩ rfl tv) (st (c_ (cp_ ⟨tv, tv⟩ rfl tv) (st (c_ (cp_ ⟨tv, tv⟩ rfl (nl rfl)) (st (c_ (cp_ t3 rfl tv) (st (c_ (cp_ ⟨tv, tv⟩ rfl tv) (st (c_ (cp_ ⟨tv, tv⟩ rfl tv) (st (stp_ rfl rfl tv rfl rfl rfl (nl rfl) (oe_ (wk_ ⟨[(0, .ptr 1048576 0)], [(1048576, [.lst 1 (a0.code_.map eU8), iV (IntKind.i64.wrap (a0.at_ + 1)), iV a0.seed])], []⟩ (fgk (by kernel_rfl)) (seq_ (seq_ (draw_ (dtake tv (mv_ rfl tv (⟨tv, (dtake tv (c_ (cp_ ⟨tv, tv⟩ rfl tv) (⟨tv, (dtake tv (c_ (cp_ ⟨tv, tv⟩ rfl tv) (⟨tv, (dtake tv (c_ (cp_ ⟨tv, tv⟩ rfl (nl rfl)) (⟨tv, (dtake tv (mv_ rfl tv (⟨tv, ?_⟩)))⟩)))⟩)))⟩)))⟩))))))))))))))))))))))))))))))))
 refine dtake tv (c_ (cp_ ⟨tv, tv⟩ rfl tv) (⟨tv, (dtake tv (c_ (cp_ ⟨tv, tv⟩ rfl tv) (⟨tv, (dtake tv (c_ (cp_ ⟨tv, tv⟩ rfl (nl rfl)) (⟨tv, (dtake tv (c_ (clenL (e := eU8) (l0 := a0.code_) rfl rfl tv) (⟨tv, (dtake tv (c_ (cp_ t3 rfl tv) (⟨tv, (dfin (wk_ ⟨[(0, .ptr 1048576 0), (19, .bool (decide ((IntKind.i64.wrap (a0.at_ + 1)) ≤ (a0.code_.length : Int))))], [(1048576, [.lst 1 (a0.code_.map eU8), iV (IntKind.i64.wrap (a0.at_ + 1)), iV a0.seed])], []⟩ (fgk (by kernel_rfl)) (ite_ (cb := (decide ((IntKind.i64.wrap (a0.at_ + 1)) ≤ (a0.code_.length : Int)))) rfl (fun c1 => ?_) (fun c1 => ?_))))⟩)))⟩)))⟩)))⟩)))⟩))
 ·replace h0 := ip c1 h0
  refine seq_ ?_
  obtain ⟨y2, e3, h0⟩ := bnd h0
  refine draw_ (dtake tv (mv_ rfl tv (⟨tv, (dtake tv (mv_ rfl tv (⟨tv, (dtake tv (c_ (cp_ ⟨tv, tv⟩ rfl tv) (⟨tv, (dtake tv (c_ (cp_ ⟨tv, tv⟩ rfl tv) (⟨tv, (dtake tv (c_ (cp_ ⟨tv, tv⟩ rfl (nl rfl)) (⟨tv, (dtake tv (c_ (cp_ t3 rfl tv) (⟨tv, (dtake tv (mv_ rfl tv (⟨tv, (dtake tv (c_ (cp_ ⟨tv, tv⟩ rfl tv) (⟨tv, (dtake tv (c_ (cp_ ⟨tv, tv⟩ rfl tv) (⟨tv, (dtake tv (c_ (cp_ ⟨tv, tv⟩ rfl (nl rfl)) (⟨tv, (dtake tv (mv_ rfl tv (⟨tv, (dtake tv (c_ (cp_ ⟨tv, tv⟩ rfl tv) (⟨tv, (dtake tv (c_ (cp_ ⟨tv, tv⟩ rfl tv) (⟨tv, (dtake tv (c_ (cp_ ⟨tv, tv⟩ rfl (nl rfl)) (⟨tv, (dtake tv (c_ (cp_ t3 rfl tv) (⟨tv, ?_⟩)))⟩)))⟩)))⟩)))⟩)))⟩)))⟩)))⟩)))⟩)))⟩)))⟩)))⟩)))⟩)))⟩)))⟩)))
  refine dtake tv (c_ (cidxL (e := eU8) (y := y2) rfl rfl tv rfl rfl tv e3) (⟨tv, (dtake tv (c_ (cp_ ⟨tv, tv⟩ rfl (nl rfl)) (⟨tv, (dtake tv (c_ (cp_ ⟨tv, tv⟩ rfl tv) (⟨tv, (dtake tv (c_ (cp_ t3 rfl tv) (⟨tv, (dtake tv (c_ (cp_ t3 rfl tv) (⟨tv, (dtake tv (c_ (cp_ ⟨tv, tv, tv⟩ rfl (by decide)) (⟨tv, (dtake tv (c_ (cp_ ⟨tv, tv⟩ rfl tv) (⟨tv, (dtake tv (c_ (cp_ ⟨tv, tv⟩ rfl tv) (⟨tv, (dalt (stp_ rfl rfl tv rfl rfl rfl (nl rfl) (dk0 ⟨[], tv, tv, (dfin ?_)⟩)) dstop)⟩)))⟩)))⟩)))⟩)))⟩)))⟩)))⟩)))⟩))
  obtain ⟨v4, e5, h0⟩ := bl h0
  refine wk_ ⟨[(0, .ptr 1048576 0)], [(1048576, [.lst 1 (a0.code_.map eU8), iV (IntKind.i64.wrap (a0.at_ + 1)), iV v4])], []⟩ (fgk (by subst e5; kernel_rfl)) (seq_ ?_)
  obtain ⟨y6, e7, h0⟩ := bnd h0
  refine draw_ (dtake tv (mv_ rfl tv (⟨tv, (dtake tv (c_ (cp_ ⟨tv, tv⟩ rfl tv) (⟨tv, (dtake tv (c_ (cp_ ⟨tv, tv⟩ rfl tv) (⟨tv, (dtake tv (c_ (cp_ ⟨tv, tv⟩ rfl (nl rfl)) (⟨tv, (dtake tv (mv_ rfl tv (⟨tv, (dtake tv (c_ (cp_ ⟨tv, tv⟩ rfl tv) (⟨tv, (dtake tv (c_ (cp_ ⟨tv, tv⟩ rfl tv) (⟨tv, (dtake tv (c_ (cp_ ⟨tv, tv⟩ rfl (nl rfl)) (⟨tv, (dtake tv (c_ (cp_ t3 rfl tv) (⟨tv, (dtake tv (c_ (cidxL (e := eU8) (y := y6) rfl rfl tv rfl rfl tv e7) (⟨tv, (dtake tv (c_ (cp_ ⟨tv, tv⟩ rfl (nl rfl)) (⟨tv, (dtake tv (c_ (cp_ ⟨tv, tv⟩ rfl tv) (⟨tv, (dtake tv (mv_ rfl tv (⟨tv, (dfin (wk_ ⟨[(2, iV (IntKind.i64.wrap ((y6).toNat : Int)))], [(1048576, [.lst 1 (a0.code_.map eU8), iV (IntKind.i64.wrap (a0.at_ + 1)), iV v4])], []⟩ (fgk (by kernel_rfl)) ?_))⟩)))⟩)))⟩)))⟩)))⟩)))⟩)))⟩)))⟩)))⟩)))⟩)))⟩)))⟩)))⟩)))
  obtain rfl := Option.some.inj h0
  exact rt_ (ret_ rfl rfl rfl rfl rfl tv)
 ·replace h0 := inb c1 h0
  refine sk_ (wk_ ⟨[(0, .ptr 1048576 0)], [(1048576, [.lst 1 (a0.code_.map eU8), iV (IntKind.i64.wrap (a0.at_ + 1)), iV a0.seed])], []⟩ (fgk (by kernel_rfl)) (seq_ (seq_ (reg_ (st (mv_ rfl tv (st (c_ (cp_ ⟨tv, tv⟩ rfl tv) (st (c_ (cp_ ⟨tv, tv⟩ rfl tv) (st (c_ (cp_ ⟨tv, tv⟩ rfl (nl rfl)) (st (c_ (cp_ t3 rfl tv) (oe_ (wk_ ⟨[(0, .ptr 1048576 0), (59, .bool (decide ((IntKind.i64.wrap (a0.at_ + 1)) > 3000)))], [(1048576, [.lst 1 (a0.code_.map eU8), iV (IntKind.i64.wrap (a0.at_ + 1)), iV a0.seed])], []⟩ (fgk (by kernel_rfl)) (ite_ (cb := (decide ((IntKind.i64.wrap (a0.at_ + 1)) > 3000))) rfl (fun c8 => ?_) (fun c8 => ?_))))))))))))))))))
  ·replace h0 := ip c8 h0
   refine seq_ (reg_ (st (mvc_ tv (oe_ (wk_ ⟨[(2, iV 0)], [(1048576, [.lst 1 (a0.code_.map eU8), iV (IntKind.i64.wrap (a0.at_ + 1)), iV a0.seed])], []⟩ (fgk (by kernel_rfl)) ?_)))))
   obtain rfl := Option.some.inj h0
   exact rt_ (ret_ rfl rfl rfl rfl rfl tv)
  ·replace h0 := inb c8 h0
   refine sk_ (wk_ ⟨[(0, .ptr 1048576 0)], [(1048576, [.lst 1 (a0.code_.map eU8), iV (IntKind.i64.wrap (a0.at_ + 1)), iV a0.seed])], []⟩ (fgk (by kernel_rfl)) (seq_ (reg_ (st (mv_ rfl tv (st (mv_ rfl tv (st (c_ (cp_ ⟨tv, tv⟩ rfl tv) (st (c_ (cp_ ⟨tv, tv⟩ rfl tv) (st (c_ (cp_ ⟨tv, tv⟩ rfl (nl rfl)) (st (c_ (cp_ t3 rfl tv) (st (c_ (cp_ t3 rfl tv) (st (c_ (cp_ ⟨tv, tv, tv⟩ rfl (by decide)) (st (c_ (cp_ ⟨tv, tv⟩ rfl tv) (st (c_ (cp_ ⟨tv, tv⟩ rfl tv) (st (stp_ rfl rfl tv rfl rfl rfl (nl rfl) (oe_ ?_))))))))))))))))))))))))))
   obtain ⟨v9, e10, h0⟩ := bl h0
   refine wk_ ⟨[(0, .ptr 1048576 0)], [(1048576, [.lst 1 (a0.code_.map eU8), iV (IntKind.i64.wrap (a0.at_ + 1)), iV v9])], []⟩ (fgk (by subst e10; kernel_rfl)) (seq_ (reg_ (st (mv_ rfl tv (st (c_ (cp_ ⟨tv, tv⟩ rfl tv) (st (c_ (cp_ ⟨tv, tv⟩ rfl tv) (st (c_ (cp_ ⟨tv, tv⟩ rfl (nl rfl)) (st (c_ (cp_ ⟨tv, tv, tv⟩ rfl (by decide)) (st (c_ (cp_ ⟨tv, tv, tv⟩ rfl (by decide)) (st (mv_ rfl tv (oe_ (wk_ ⟨[(2, iV (((IntKind.i64.wrap ((v9).tdiv 65536))).tmod 256))], [(1048576, [.lst 1 (a0.code_.map eU8), iV (IntKind.i64.wrap (a0.at_ + 1)), iV v9])], []⟩ (fgk (by kernel_rfl)) ?_))))))))))))))))))
   obtain rfl := Option.some.inj h0
   exact rt_ (ret_ rfl rfl rfl rfl rfl tv)

/- (*loop.example/g00149/spec.l00Src).next -/
def c117_r0 : List Ins := [⟨some 4, .p (.mv (.c (iV 0))), none⟩]
def c117_r1 : List Ins := [(iQ 8 (.mv (.t 1))),
⟨some 9, .p (.bin .leq (.t 8) (.c (iV 1))), none⟩]
def c117_r2 : List Ins := [⟨some 4, .p (.mv (.c (iV 0))), none⟩]
def c117_r3 : List Ins := [(iQ 10 (.mv (.t 1))),
⟨some 11, .p (.bin .leq (.t 10) (.c (iV 256))), none⟩]
def c117_r4 : List Ins := [(iQ 12 (.mv (.t 0))),
⟨some 13, .call 139 [(.t 12)], none⟩,
(iQ 14 (.mv (.t 1))),
(iQ 15 (.bin .rem (.t 13) (.t 14))),
(iQ 4 (.mv (.t 15)))]
def c117_r5 : List Ins := [(iQ 16 (.mv (.t 0))),
⟨some 17, .call 139 [(.t 16)], none⟩,
(iQ 5 (.mv (.t 17)))]
def c117_r6 : List Ins := [(iQ 18 (.mv (.t 0))),
⟨some 19, .call 139 [(.t 18)], none⟩,
(iQ 6 (.mv (.t 19)))]
def c117_r7 : List Ins := [(iQ 20 (.mv (.t 0))),
⟨some 21, .call 139 [(.t 20)], none⟩,
(iQ 7 (.mv (.t 21)))]
def c117_r8 : List Ins := [(iQ 22 (.mv (.t 5))),
⟨some 23, .p (.bin .mul (.t 22) (.c (iV 65536))), none⟩,
(iQ 24 (.mv (.t 6))),
⟨some 25, .p (.bin .mul (.t 24) (.c (iV 256))), none⟩,
(iQ 26 (.bin .add (.t 23) (.t 25))),
(iQ 27 (.mv (.t 7))),
(iQ 28 (.bin .add (.t 26) (.t 27))),
(iQ 29 (.mv (.t 1))),
(iQ 30 (.bin .rem (.t 28) (.t 29))),
(iQ 4 (.mv (.t 30)))]
def c117 : XFn := { np := 2, nt := 31, res := [.t 4], body := (.seq (.reg c117_r0) (.seq (.seq (.reg c117_r1) (.ite (.t 9) (.seq (.reg c117_r2) .ret) .skip)) (.seq (.seq (.reg c117_r3) (.ite (.t 11) (.seq (.reg c117_r4) .ret) .skip)) (.seq (.reg c117_r5) (.seq (.reg c117_r6) (.seq (.reg c117_r7) (.seq (.reg c117_r8) .ret))))))) }
def K117 (C : CRel) : Prop := ∀ (a0 : Dl00Src) (a1 : Int) (r : Int × Dl00Src), g117 a0 a1 = some r → C 117 ⟨[.ptr 1048576 0, iV a1], [[.lst 1 (a0.code_.map eU8), iV a0.at_, iV a0.seed]]⟩ ⟨iV r.1, [[.lst 1 (r.2.code_.map eU8), iV r.2.at_, iV r.2.seed]], []⟩
theorem F117 {C : CRel} (H139 : K139 C) (a0 : Dl00Src) (a1 : Int) (r : Int × Dl00Src) (h0 : g117 a0 a1 = some r) : FnOK C c117 ⟨[.ptr 1048576 0, iV a1], [[.lst 1 (a0.code_.map eU8), iV a0.at_, iV a0.seed]]⟩ ⟨iV r.1, [[.lst 1 (r.2.code_.map eU8), iV r.2.at_, iV r.2.seed]], []⟩ := by
 refine fn_ (nl rfl) (seq_ (reg_ (st (mvc_ tv (oe_ (wk_ ⟨[(0, .ptr 1048576 0), (1, iV a1)], [(1048576, [.lst 1 (a0.code_.map eU8), iV a0.at_, iV a0.seed])], []⟩ (fgk (by kernel_rfl)) (seq_ (seq_ (reg_ (st (mv_ rfl tv (st (c_ (cp_ t3 rfl tv) (oe_ (wk_ ⟨[(0, .ptr 1048576 0), (1, iV a1), (9, .bool (decide (a1 ≤ 1)))], [(1048576, [.lst 1 (a0.code_.map eU8), iV a0.at_, iV a0.seed])], []⟩ (fgk (by kernel_rfl)) (ite_ (cb := (decide (a1 ≤ 1))) rfl (fun c1 => ?_) (fun c1 => ?_)))))))))))))))))
 ·replace h0 := ip c1 h0
  refine seq_ (reg_ (st (mvc_ tv (oe_ (wk_ ⟨[(4, iV 0)], [(1048576, [.lst 1 (a0.code_.map eU8), iV a0.at_, iV a0.seed])], []⟩ (fgk (by kernel_rfl)) ?_)))))
  obtain rfl := Option.some.inj h0
  exact rt_ (ret_ rfl rfl rfl rfl rfl tv)
 ·replace h0 := inb c1 h0
  refine sk_ (wk_ ⟨[(0, .ptr 1048576 0), (1, iV a1)], [(1048576, [.lst 1 (a0.code_.map eU8), iV a0.at_, iV a0.seed])], []⟩ (fgk (by kernel_rfl)) (seq_ (seq_ (reg_ (st (mv_ rfl tv (st (c_ (cp_ t3 rfl tv) (oe_ (wk_ ⟨[(0, .ptr 1048576 0), (1, iV a1), (11, .bool (decide (a1 ≤ 256)))], [(1048576, [.lst 1 (a0.code_.map eU8), iV a0.at_, iV a0.seed])], []⟩ (fgk (by kernel_rfl)) (ite_ (cb := (decide (a1 ≤ 256))) rfl (fun c2 => ?_) (fun c2 => ?_))))))))))))
  ·replace h0 := ip c2 h0
   refine seq_ (reg_ (st (mv_ rfl tv ?_)))
   obtain ⟨r3, e4, h0⟩ := bnd h0
   refine st (call1_ [1048576] [] [] true (H139 a0 r3 e4) ⟨tv, tv⟩ (by kernel_rfl) (by kernel_rfl) (by kernel_rfl) (by kernel_rfl) (fun h => nomatch h) (sw ⟨[(1, iV a1), (13, iV r3.1)], [(1048576, [.lst 1 (r3.2.code_.map eU8), iV r3.2.at_, iV r3.2.seed])], []⟩ (fgk (by kernel_rfl)) (mv_ rfl tv ?_)))
   obtain ⟨c5, h0⟩ := grd h0
   refine st (c_ (cp_ ⟨tv, tv, tv⟩ rfl c5) (st (mv_ rfl tv (oe_ (wk_ ⟨[(4, iV ((r3.1).tmod a1))], [(1048576, [.lst 1 (r3.2.code_.map eU8), iV r3.2.at_, iV r3.2.seed])], []⟩ (fgk (by kernel_rfl)) ?_)))))
   obtain rfl := Option.some.inj h0
   exact rt_ (ret_ rfl rfl rfl rfl rfl tv)
  ·replace h0 := inb c2 h0
   refine sk_ (wk_ ⟨[(0, .ptr 1048576 0), (1, iV a1)], [(1048576, [.lst 1 (a0.code_.map eU8), iV a0.at_, iV a0.seed])], []⟩ (fgk (by kernel_rfl)) (seq_ (reg_ (st (mv_ rfl tv ?_)))))
   obtain ⟨r6, e7, h0⟩ := bnd h0
   refine st (call1_ [1048576] [] [] true (H139 a0 r6 e7) ⟨tv, tv⟩ (by kernel_rfl) (by kernel_rfl) (by kernel_rfl) (by kernel_rfl) (fun h => nomatch h) (sw ⟨[(0, .ptr 1048576 0), (1, iV a1), (17, iV r6.1)], [(1048576, [.lst 1 (r6.2.code_.map eU8), iV r6.2.at_, iV r6.2.seed])], []⟩ (fgk (by kernel_rfl)) (mv_ rfl tv (oe_ (wk_ ⟨[(0, .ptr 1048576 0), (1, iV a1), (5, iV r6.1)], [(1048576, [.lst 1 (r6.2.code_.map eU8), iV r6.2.at_, iV r6.2.seed])], []⟩ (fgk (by kernel_rfl)) (seq_ (reg_ (st (mv_ rfl tv ?_)))))))))
   obtain ⟨r8, e9, h0⟩ := bnd h0
   refine st (call1_ [1048576] [] [] true (H139 r6.2 r8 e9) ⟨tv, tv⟩ (by kernel_rfl) (by kernel_rfl) (by kernel_rfl) (by kernel_rfl) (fun h => nomatch h) (sw ⟨[(0, .ptr 1048576 0), (1, iV a1), (5, iV r6.1), (19, iV r8.1)], [(1048576, [.lst 1 (r8.2.code_.map eU8), iV r8.2.at_, iV r8.2.seed])], []⟩ (fgk (by kernel_rfl)) (mv_ rfl tv (oe_ (wk_ ⟨[(0, .ptr 1048576 0), (1, iV a1), (5, iV r6.1), (6, iV r8.1)], [(1048576, [.lst 1 (r8.2.code_.map eU8), iV r8.2.at_, iV r8.2.seed])], []⟩ (fgk (by kernel_rfl)) (seq_ (reg_ (st (mv_ rfl tv ?_)))))))))
   obtain ⟨r10, e11, h0⟩ := bnd h0
   refine st (call1_ [1048576] [] [] true (H139 r8.2 r10 e11) ⟨tv, tv⟩ (by kernel_rfl) (by kernel_rfl) (by kernel_rfl) (by kernel_rfl) (fun h => nomatch h) (sw ⟨[(1, iV a1), (5, iV r6.1), (6, iV r8.1), (21, iV r10.1)], [(1048576, [.lst 1 (r10.2.code_.map eU8), iV r10.2.at_, iV r10.2.seed])], []⟩ (fgk (by kernel_rfl)) (mv_ rfl tv (oe_ (wk_ ⟨[(1, iV a1), (5, iV r6.1), (6, iV r8.1), (7, iV r10.1)], [(1048576, [.lst 1 (r10.2.code_.map eU8), iV r10.2.at_, iV r10.2.seed])], []⟩ (fgk (by kernel_rfl)) (seq_ (reg_ (st (mv_ rfl tv (st (c_ (cp_ t3 rfl tv) (st (mv_ rfl tv (st (c_ (cp_ t3 rfl tv) (st (c_ (cp_ t3 rfl tv) (st (mv_ rfl tv (st (c_ (cp_ t3 rfl tv) (st (mv_ rfl tv ?_)))))))))))))))))))))))
   obtain ⟨c12, h0⟩ := grd h0
   refine st (c_ (cp_ ⟨tv, tv, tv⟩ rfl c12) (st (mv_ rfl tv (oe_ ?_))))
   obtain ⟨v13, e14, h0⟩ := bl h0
   refine wk_ ⟨[(4, iV v13)], [(1048576, [.lst 1 (r10.2.code_.map eU8), iV r10.2.at_, iV r10.2.seed])], []⟩ (fgk (by subst e14; kernel_rfl)) ?_
   obtain rfl := Option.some.inj h0
   exact rt_ (ret_ rfl rfl rfl rfl rfl tv)

/- (*loop.example/g00149/spec.l00Src).size -/
def c118_r0 : List Ins := [⟨some 4, .p (.mv (.c (iV 0))), none⟩]
def c118_r1 : List Ins := [(iQ 5 (.mv (.t 0))),
(iQ 6 (.nilc (.t 5))),
(iQ 7 (.fieldA (.t 6) 0)),
(iQ 8 (.load (.t 7) 1 false)),
(iQ 9 (.len (.t 8))),
⟨some 10, .p (.bin .quo (.t 9) (.c (iV 12))), none⟩,
⟨some 11, .p (.bin .add (.c (iV 1)) (.t 10)), none⟩,
(iQ 12 (.mv (.t 1))),
(iQ 13 (.mn (.t 11) (.t 12))),
(iQ 4 (.mv (.t 13)))]
def c118 : XFn := { np := 2, nt := 14, res := [.t 4], body := (.seq (.reg c118_r0) (.seq (.reg c118_r1) .ret)) }
def K118 (C : CRel) : Prop := ∀ (a0 : Dl00Src) (a1 : Int) (r : Int), g118 a0 a1 = some r → C 118 ⟨[.iptr [.lst 1 (a0.code_.map eU8), iV a0.at_, iV a0.seed], iV a1], []⟩ ⟨iV r, [], []⟩
theorem F118 {C : CRel}  (a0 : Dl00Src) (a1 : Int) (r : Int) (h0 : g118 a0 a1 = some r) : FnOK C c118 ⟨[.iptr [.lst 1 (a0.code_.map eU8), iV a0.at_, iV a0.seed], iV a1], []⟩ ⟨iV r, [], []⟩ := by
 refine fn_ (nl rfl) (seq_ (reg_ (st (mvc_ tv (oe_ (wk_ ⟨[(0, .iptr [.lst 1 (a0.code_.map eU8), iV a0.at_, iV a0.seed]), (1, iV a1)], [], []⟩ (fgk (by kernel_rfl)) (seq_ (reg_ (st (mv_ rfl tv (st (c_ (cp_ ⟨tv, tv⟩ rfl tv) (st (c_ (cp_ ⟨tv, tv⟩ rfl (nl rfl)) (st (c_ (cp_ ⟨tv, tv⟩ rfl (nl rfl)) (st (c_ (clenL (e := eU8) (l0 := a0.code_) rfl rfl tv) (st (c_ (cp_ ⟨tv, tv, tv⟩ rfl (by decide)) (st (c_ (cp_ t3 rfl tv) (st (mv_ rfl tv (st (c_ (cp_ ⟨tv, tv, tv⟩ rfl rfl) (st (mv_ rfl tv (oe_ ?_)))))))))))))))))))))))))))))
 obtain ⟨v1, e2, h0⟩ := bl h0
 refine wk_ ⟨[(4, iV v1)], [], []⟩ (fgk (by subst e2; kernel_rfl)) ?_
 obtain rfl := Option.some.inj h0
 exact rt_ (ret_ rfl rfl rfl rfl rfl tv)

/- (*loop.example/g00149/spec.l00Src).chance -/
def c119_r0 : List Ins := [⟨some 4, .p (.mv (.c (.bool false))), none⟩]
def c119_r1 : List Ins := [(iQ 5 (.mv (.t 0))),
(iQ 6 (.mv (.t 1))),
⟨some 7, .call 117 [(.t 5), (.t 6)], none⟩,
(iQ 8 (.mv (.t 1))),
⟨some 9, .p (.bin .sub (.t 8) (.c (iV 1))), none⟩,
(iQ 10 (.bin .eql (.t 7) (.t 9))),
(iQ 4 (.mv (.t 10)))]
def c119 : XFn := { np := 2, nt := 11, res := [.t 4], body := (.seq (.reg c119_r0) (.seq (.reg c119_r1) .ret)) }
def K119 (C : CRel) : Prop := ∀ (a0 : Dl00Src) (a1 : Int) (r : Bool × Dl00Src), g119 a0 a1 = some r → C 119 ⟨[.ptr 1048576 0, iV a1], [[.lst 1 (a0.code_.map eU8), iV a0.at_, iV a0.seed]]⟩ ⟨.bool r.1, [[.lst 1 (r.2.code_.map eU8), iV r.2.at_, iV r.2.seed]], []⟩
theorem F119 {C : CRel} (H117 : K117 C) (a0 : Dl00Src) (a1 : Int) (r : Bool × Dl00Src) (h0 : g119 a0 a1 = some r) : FnOK C c119 ⟨[.ptr 1048576 0, iV a1], [[.lst 1 (a0.code_.map eU8), iV a0.at_, iV a0.seed]]⟩ ⟨.bool r.1, [[.lst 1 (r.2.code_.map eU8), iV r.2.at_, iV r.2.seed]], []⟩ := by
 refine fn_ (nl rfl) (seq_ (reg_ (st (mvc_ tv (oe_ (wk_ ⟨[(0, .ptr 1048576 0), (1, iV a1)], [(1048576, [.lst 1 (a0.code_.map eU8), iV a0.at_, iV a0.seed])], []⟩ (fgk (by kernel_rfl)) (seq_ (reg_ (st (mv_ rfl tv (st (mv_ rfl tv ?_))))))))))))
 obtain ⟨r1, e2, h0⟩ := bnd h0
 refine st (call1_ [1048576] [] [] true (H117 a0 a1 r1 e2) ⟨tv, tv, tv⟩ (by kernel_rfl) (by kernel_rfl) (by kernel_rfl) (by kernel_rfl) (fun h => nomatch h) (sw ⟨[(1, iV a1), (7, iV r1.1)], [(1048576, [.lst 1 (r1.2.code_.map eU8), iV r1.2.at_, iV r1.2.seed])], []⟩ (fgk (by kernel_rfl)) (mv_ rfl tv (st (c_ (cp_ t3 rfl tv) (st (c_ (cp_ t3 rfl tv) (st (mv_ rfl tv (oe_ (wk_ ⟨[(4, .bool (r1.1 == (IntKind.i64.wrap (a1 - 1))))], [(1048576, [.lst 1 (r1.2.code_.map eU8), iV r1.2.at_, iV r1.2.seed])], []⟩ (fgk (by kernel_rfl)) ?_)))))))))))
 obtain rfl := Option.some.inj h0
 exact rt_ (ret_ rfl rfl rfl rfl rfl tv)
end Go.Ev
