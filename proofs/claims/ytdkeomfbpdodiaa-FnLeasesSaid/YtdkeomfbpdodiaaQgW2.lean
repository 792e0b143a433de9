/- The walks of functions: the code comes to the answers that QgD tells. Written by a program of ours. -/
import Derived.Test.YtdkeomfbpdodiaaQgW1
set_option linter.all false
set_option maxHeartbeats 4000000
set_option linter.unusedVariables false
set_option maxRecDepth 100000
namespace Go.Ev

/- slices.partialInsertionSortCmpFunc[loop.example/g00149/impl.Lease] -/
def c153_r0 : List Ins := [⟨some 8, .p (.mv (.c (.bool false))), none⟩]
def c153_r1 : List Ins := [(iQ 13 (.mv (.t 1))),
⟨some 14, .p (.bin .add (.t 13) (.c (iV 1))), none⟩,
(iQ 9 (.mv (.t 14)))]
def c153_r2 : List Ins := [⟨some 10, .p (.mv (.c (iV 0))), none⟩]
def c153_r3 : List Ins := [(iQ 15 (.mv (.t 10))),
⟨some 16, .p (.bin .lss (.t 15) (.c (iV 5))), none⟩]
def c153_r4 : DP := (.take (iQ 19 (.mv (.t 9)))
(.take (iQ 20 (.mv (.t 2)))
(.take (iQ 21 (.bin .lss (.t 19) (.t 20)))
(.take (iQ 22 (.mv (.t 21)))
(.take ⟨some 23, .p (.mv (.t 3)), some (22, true)⟩
(.take ⟨some 24, .p (.mv (.t 0)), some (22, true)⟩
(.take ⟨some 25, .p (.mv (.t 9)), some (22, true)⟩
(.take ⟨some 26, .p (.idxA (.t 24) (.t 25) 4), some (22, true)⟩
(.take ⟨some 27, .p (.load (.t 26) 4 true), some (22, true)⟩
(.take ⟨some 28, .p (.mv (.t 0)), some (22, true)⟩
(.take ⟨some 29, .p (.mv (.t 9)), some (22, true)⟩
(.take ⟨some 30, .p (.bin .sub (.t 29) (.c (iV 1))), some (22, true)⟩
(.take ⟨some 31, .p (.idxA (.t 28) (.t 30) 4), some (22, true)⟩
(.take ⟨some 32, .p (.load (.t 31) 4 true), some (22, true)⟩
(.alt [] ⟨some 33, .callv (.t 23) [(.t 27), (.t 32)], some (22, true)⟩
(.take ⟨some 34, .p (.bin .lss (.t 33) (.c (iV 0))), some (22, true)⟩
(.take ⟨some 35, .p (.un .not (.t 34)), some (22, true)⟩
(.take ⟨some 36, .pick (.t 22) (.t 35) (.c (.bool false)), none⟩
.fin)))
.stop)))))))))))))))
def c153_r5 : List Ins := [(iQ 37 (.mv (.t 9))),
⟨some 38, .p (.bin .add (.t 37) (.c (iV 1))), none⟩,
(iQ 9 (.mv (.t 38)))]
def c153_l0 : IR := (.seq (.seq (.draw c153_r4) (.ite (.t 36) .skip (.exit 2))) (.block 3 (.reg c153_r5)))
def c153_r6 : List Ins := [(iQ 39 (.mv (.t 9))),
(iQ 40 (.mv (.t 2))),
(iQ 41 (.bin .eql (.t 39) (.t 40)))]
def c153_r7 : List Ins := [⟨some 8, .p (.mv (.c (.bool true))), none⟩]
def c153_r8 : List Ins := [(iQ 42 (.mv (.t 2))),
(iQ 43 (.mv (.t 1))),
(iQ 44 (.bin .sub (.t 42) (.t 43))),
⟨some 45, .p (.bin .lss (.t 44) (.c (iV 50))), none⟩]
def c153_r9 : List Ins := [⟨some 8, .p (.mv (.c (.bool false))), none⟩]
def c153_r10 : DP := (.take (iQ 46 (.mv (.t 0)))
(.take (iQ 47 (.mv (.t 9)))
(.take (iQ 48 (.mv (.t 0)))
(.take (iQ 49 (.mv (.t 9)))
(.take ⟨some 50, .p (.bin .sub (.t 49) (.c (iV 1))), none⟩
(.take (iQ 51 (.mv (.t 0)))
(.take (iQ 52 (.mv (.t 9)))
(.take ⟨some 53, .p (.bin .sub (.t 52) (.c (iV 1))), none⟩
(.take (iQ 54 (.idxA (.t 51) (.t 53) 4))
(.take (iQ 55 (.load (.t 54) 4 true))
(.take (iQ 56 (.mv (.t 0)))
(.take (iQ 57 (.mv (.t 9)))
(.take (iQ 58 (.idxA (.t 56) (.t 57) 4))
(.take (iQ 59 (.load (.t 58) 4 true))
(.take (iQ 60 (.idxA (.t 46) (.t 47) 4))
(.alt [⟨some 50, .p (.bin .sub (.t 49) (.c (iV 1))), none⟩, (iQ 49 (.mv (.t 9))), (iQ 48 (.mv (.t 0)))] ⟨none, .store (.t 60) (.t 55) 4, none⟩
(.take (iQ 61 (.idxA (.t 48) (.t 50) 4))
(.alt [] ⟨none, .store (.t 61) (.t 59) 4, none⟩
.fin
.stop))
.stop))))))))))))))))
def c153_r11 : List Ins := [(iQ 62 (.mv (.t 9))),
(iQ 63 (.mv (.t 1))),
(iQ 64 (.bin .sub (.t 62) (.t 63))),
⟨some 65, .p (.bin .geq (.t 64) (.c (iV 2))), none⟩]
def c153_r12 : List Ins := [(iQ 66 (.mv (.t 9))),
⟨some 67, .p (.bin .sub (.t 66) (.c (iV 1))), none⟩,
(iQ 11 (.mv (.t 67)))]
def c153_r13 : List Ins := [(iQ 68 (.mv (.t 11))),
⟨some 69, .p (.bin .geq (.t 68) (.c (iV 1))), none⟩]
def c153_r14 : DP := (.take (iQ 72 (.mv (.t 3)))
(.take (iQ 73 (.mv (.t 0)))
(.take (iQ 74 (.mv (.t 11)))
(.take (iQ 75 (.idxA (.t 73) (.t 74) 4))
(.take (iQ 76 (.load (.t 75) 4 true))
(.take (iQ 77 (.mv (.t 0)))
(.take (iQ 78 (.mv (.t 11)))
(.take ⟨some 79, .p (.bin .sub (.t 78) (.c (iV 1))), none⟩
(.take (iQ 80 (.idxA (.t 77) (.t 79) 4))
(.take (iQ 81 (.load (.t 80) 4 true))
(.alt [] ⟨some 82, .callv (.t 72) [(.t 76), (.t 81)], none⟩
(.take ⟨some 83, .p (.bin .lss (.t 82) (.c (iV 0))), none⟩
(.take (iQ 84 (.un .not (.t 83)))
.fin))
.stop)))))))))))
def c153_r15 : DP := (.take (iQ 85 (.mv (.t 0)))
(.take (iQ 86 (.mv (.t 11)))
(.take (iQ 87 (.mv (.t 0)))
(.take (iQ 88 (.mv (.t 11)))
(.take ⟨some 89, .p (.bin .sub (.t 88) (.c (iV 1))), none⟩
(.take (iQ 90 (.mv (.t 0)))
(.take (iQ 91 (.mv (.t 11)))
(.take ⟨some 92, .p (.bin .sub (.t 91) (.c (iV 1))), none⟩
(.take (iQ 93 (.idxA (.t 90) (.t 92) 4))
(.take (iQ 94 (.load (.t 93) 4 true))
(.take (iQ 95 (.mv (.t 0)))
(.take (iQ 96 (.mv (.t 11)))
(.take (iQ 97 (.idxA (.t 95) (.t 96) 4))
(.take (iQ 98 (.load (.t 97) 4 true))
(.take (iQ 99 (.idxA (.t 85) (.t 86) 4))
(.alt [⟨some 89, .p (.bin .sub (.t 88) (.c (iV 1))), none⟩, (iQ 88 (.mv (.t 11))), (iQ 87 (.mv (.t 0)))] ⟨none, .store (.t 99) (.t 94) 4, none⟩
(.take (iQ 100 (.idxA (.t 87) (.t 89) 4))
(.alt [] ⟨none, .store (.t 100) (.t 98) 4, none⟩
.fin
.stop))
.stop))))))))))))))))
def c153_r16 : List Ins := [(iQ 70 (.mv (.t 11))),
⟨some 71, .p (.bin .sub (.t 70) (.c (iV 1))), none⟩,
(iQ 11 (.mv (.t 71)))]
def c153_l1 : IR := (.seq (.seq (.reg c153_r13) (.ite (.t 69) .skip (.exit 4))) (.seq (.block 5 (.seq (.seq (.draw c153_r14) (.ite (.t 84) (.exit 4) .skip)) (.draw c153_r15))) (.reg c153_r16)))
def c153_r17 : List Ins := [(iQ 101 (.mv (.t 2))),
(iQ 102 (.mv (.t 9))),
(iQ 103 (.bin .sub (.t 101) (.t 102))),
⟨some 104, .p (.bin .geq (.t 103) (.c (iV 2))), none⟩]
def c153_r18 : List Ins := [(iQ 105 (.mv (.t 9))),
⟨some 106, .p (.bin .add (.t 105) (.c (iV 1))), none⟩,
(iQ 12 (.mv (.t 106)))]
def c153_r19 : List Ins := [(iQ 107 (.mv (.t 12))),
(iQ 108 (.mv (.t 2))),
(iQ 109 (.bin .lss (.t 107) (.t 108)))]
def c153_r20 : DP := (.take (iQ 112 (.mv (.t 3)))
(.take (iQ 113 (.mv (.t 0)))
(.take (iQ 114 (.mv (.t 12)))
(.take (iQ 115 (.idxA (.t 113) (.t 114) 4))
(.take (iQ 116 (.load (.t 115) 4 true))
(.take (iQ 117 (.mv (.t 0)))
(.take (iQ 118 (.mv (.t 12)))
(.take ⟨some 119, .p (.bin .sub (.t 118) (.c (iV 1))), none⟩
(.take (iQ 120 (.idxA (.t 117) (.t 119) 4))
(.take (iQ 121 (.load (.t 120) 4 true))
(.alt [] ⟨some 122, .callv (.t 112) [(.t 116), (.t 121)], none⟩
(.take ⟨some 123, .p (.bin .lss (.t 122) (.c (iV 0))), none⟩
(.take (iQ 124 (.un .not (.t 123)))
.fin))
.stop)))))))))))
def c153_r21 : DP := (.take (iQ 125 (.mv (.t 0)))
(.take (iQ 126 (.mv (.t 12)))
(.take (iQ 127 (.mv (.t 0)))
(.take (iQ 128 (.mv (.t 12)))
(.take ⟨some 129, .p (.bin .sub (.t 128) (.c (iV 1))), none⟩
(.take (iQ 130 (.mv (.t 0)))
(.take (iQ 131 (.mv (.t 12)))
(.take ⟨some 132, .p (.bin .sub (.t 131) (.c (iV 1))), none⟩
(.take (iQ 133 (.idxA (.t 130) (.t 132) 4))
(.take (iQ 134 (.load (.t 133) 4 true))
(.take (iQ 135 (.mv (.t 0)))
(.take (iQ 136 (.mv (.t 12)))
(.take (iQ 137 (.idxA (.t 135) (.t 136) 4))
(.take (iQ 138 (.load (.t 137) 4 true))
(.take (iQ 139 (.idxA (.t 125) (.t 126) 4))
(.alt [⟨some 129, .p (.bin .sub (.t 128) (.c (iV 1))), none⟩, (iQ 128 (.mv (.t 12))), (iQ 127 (.mv (.t 0)))] ⟨none, .store (.t 139) (.t 134) 4, none⟩
(.take (iQ 140 (.idxA (.t 127) (.t 129) 4))
(.alt [] ⟨none, .store (.t 140) (.t 138) 4, none⟩
.fin
.stop))
.stop))))))))))))))))
def c153_r22 : List Ins := [(iQ 110 (.mv (.t 12))),
⟨some 111, .p (.bin .add (.t 110) (.c (iV 1))), none⟩,
(iQ 12 (.mv (.t 111)))]
def c153_l2 : IR := (.seq (.seq (.reg c153_r19) (.ite (.t 109) .skip (.exit 6))) (.seq (.block 7 (.seq (.seq (.draw c153_r20) (.ite (.t 124) (.exit 6) .skip)) (.draw c153_r21))) (.reg c153_r22)))
def c153_r23 : List Ins := [(iQ 17 (.mv (.t 10))),
⟨some 18, .p (.bin .add (.t 17) (.c (iV 1))), none⟩,
(iQ 10 (.mv (.t 18)))]
def c153_l3 : IR := (.seq (.seq (.reg c153_r3) (.ite (.t 16) .skip (.exit 0))) (.seq (.block 1 (.seq (.block 2 (.loop c153_l0)) (.seq (.seq (.reg c153_r6) (.ite (.t 41) (.seq (.reg c153_r7) .ret) .skip)) (.seq (.seq (.reg c153_r8) (.ite (.t 45) (.seq (.reg c153_r9) .ret) .skip)) (.seq (.draw c153_r10) (.seq (.seq (.reg c153_r11) (.ite (.t 65) (.seq (.reg c153_r12) (.block 4 (.loop c153_l1))) .skip)) (.seq (.reg c153_r17) (.ite (.t 104) (.seq (.reg c153_r18) (.block 6 (.loop c153_l2))) .skip)))))))) (.reg c153_r23)))
def c153_r24 : List Ins := [⟨some 8, .p (.mv (.c (.bool false))), none⟩]
def c153 : XFn := { np := 4, nt := 141, res := [.t 8], body := (.seq (.reg c153_r0) (.seq (.reg c153_r1) (.seq (.seq (.reg c153_r2) (.block 0 (.loop c153_l3))) (.seq (.reg c153_r24) .ret)))) }
def K153 (C : CRel) : Prop := ∀ (a0 : List DLease) (a1 : Int) (a2 : Int) (f3 : Nat) (k3 : List V) (is3 : DLease → DLease → Option Int) (hs3 : Shut k3) (hf3 : ∀ (x0 : DLease) (x1 : DLease) r, is3 x0 x1 = some r → C f3 ⟨.agg (eDLease x0) :: .agg (eDLease x1) :: k3, []⟩ ⟨iV r, [], []⟩) (r : Bool × (List DLease)), g153 a0 a1 a2 is3 = some r → C 153 ⟨[.own 2097152 0 4 (a0.map eDLease), iV a1, iV a2, .clo f3 k3], []⟩ ⟨.bool r.1, [], [(0, 4, r.2.map eDLease)]⟩
theorem F153 {C : CRel}  (a0 : List DLease) (a1 : Int) (a2 : Int) (f3 : Nat) (k3 : List V) (is3 : DLease → DLease → Option Int) (hs3 : Shut k3) (hf3 : ∀ (x0 : DLease) (x1 : DLease) r, is3 x0 x1 = some r → C f3 ⟨.agg (eDLease x0) :: .agg (eDLease x1) :: k3, []⟩ ⟨iV r, [], []⟩) (r : Bool × (List DLease)) (h0 : g153 a0 a1 a2 is3 = some r) : FnOK C c153 ⟨[.own 2097152 0 4 (a0.map eDLease), iV a1, iV a2, .clo f3 k3], []⟩ ⟨.bool r.1, [], [(0, 4, r.2.map eDLease)]⟩ := by
 refine fn_ (nl rfl) (seq_ (reg_ (st (mvc_ tv (oe_ (wk_ ⟨[(0, .own 2097152 0 4 (a0.map eDLease)), (1, iV a1), (2, iV a2), (3, .clo f3 k3)], [], []⟩ (fg ⟨rfl, rfl, rfl, rfl, tv⟩ tv) (seq_ (reg_ (st (mv_ rfl tv (st (c_ (cp_ t3 rfl tv) (st (mv_ rfl tv (oe_ (wk_ ⟨[(0, .own 2097152 0 4 (a0.map eDLease)), (1, iV a1), (2, iV a2), (3, .clo f3 k3), (9, iV (IntKind.i64.wrap (a1 + 1)))], [], []⟩ (fg ⟨rfl, rfl, rfl, rfl, rfl, tv⟩ tv) (seq_ (seq_ (reg_ (st (mvc_ tv (oe_ (wk_ ⟨[(0, .own 2097152 0 4 (a0.map eDLease)), (1, iV a1), (2, iV a2), (3, .clo f3 k3), (9, iV (IntKind.i64.wrap (a1 + 1))), (10, iV 0)], [], []⟩ (fg ⟨rfl, rfl, rfl, rfl, rfl, rfl, tv⟩ tv) (block_ ?_))))))))))))))))))))))))
 obtain ⟨r738, e739, h0⟩ := bnd h0
 refine loop_ (R := (fun S => ∃ p313 : List DLease, .inl p313 = r738 ∧ S = ⟨[(0, .own 2097152 0 4 (p313.map eDLease))], [], []⟩)) (g153_l0 a1 a2 is3) (fun s S => match s with | (p154, p155, p156) => S = ⟨[(0, .own 2097152 0 4 (p154.map eDLease)), (1, iV a1), (2, iV a2), (3, .clo f3 k3), (9, iV p155), (10, iV p156)], [], []⟩) e739 ⟨[(0, .own 2097152 0 4 (a0.map eDLease)), (1, iV a1), (2, iV a2), (3, .clo f3 k3), (9, iV (IntKind.i64.wrap (a1 + 1))), (10, iV 0)], [], []⟩ (fg ⟨rfl, rfl, rfl, rfl, rfl, rfl, tv⟩ tv) rfl 0 (fun _ => rfl) ?_ ?_
 ·rintro S _ hfg ⟨p313, rfl, rfl⟩
  refine wk_ ⟨[(0, .own 2097152 0 4 (p313.map eDLease))], [], []⟩ (fglk hfg (by kernel_rfl)) (seq_ (reg_ (st (mvc_ tv (oe_ (wk_ ⟨[(0, .own 2097152 0 4 (p313.map eDLease)), (8, .bool false)], [], []⟩ (fgk (by kernel_rfl)) ?_))))))
  obtain rfl := Option.some.inj h0
  exact rt_ (ret_ rfl rfl rfl rfl rfl ⟨⟨rfl, mlen (fun _ => rfl)⟩, tv⟩)
 ·rintro ⟨p154, p155, p156⟩ o1 _ K1 rfl h1 hx1 hK1 hE1 hR1
  refine seq_ (seq_ (reg_ (st (mv_ rfl tv (st (c_ (cp_ t3 rfl tv) (oe_ (wk_ ⟨[(0, .own 2097152 0 4 (p154.map eDLease)), (1, iV a1), (2, iV a2), (3, .clo f3 k3), (9, iV p155), (10, iV p156), (16, .bool (decide (p156 < 5)))], [], []⟩ (fg ⟨rfl, rfl, rfl, rfl, rfl, rfl, rfl, tv⟩ tv) (ite_ (cb := (decide (p156 < 5))) rfl (fun c314 => ?_) (fun c314 => ?_))))))))))
  ·replace h1 := ip c314 h1
   refine sk_ (wk_ ⟨[(0, .own 2097152 0 4 (p154.map eDLease)), (1, iV a1), (2, iV a2), (3, .clo f3 k3), (9, iV p155), (10, iV p156)], [], []⟩ (fg ⟨rfl, rfl, rfl, rfl, rfl, rfl, tv⟩ tv) (seq_ (blockJ (fun S => ∃ p465 : List DLease, ∃ p466 : Int, S = ⟨[(0, .own 2097152 0 4 (p465.map eDLease)), (1, iV a1), (2, iV a2), (3, .clo f3 k3), (9, iV p466), (10, iV p156)], [], []⟩ ∧ g153_j0 p156 p465 p466 = some o1) ?_ (fun J467 => ?_))))
   ·rintro _ ⟨p465, p466, rfl, h1⟩
    refine wk_ ⟨[(0, .own 2097152 0 4 (p465.map eDLease)), (1, iV a1), (2, iV a2), (3, .clo f3 k3), (9, iV p466), (10, iV p156)], [], []⟩ (fg ⟨rfl, rfl, rfl, rfl, rfl, rfl, tv⟩ tv) (reg_ (st (mv_ rfl tv (st (c_ (cp_ t3 rfl tv) (st (mv_ rfl tv (oe_ ?_))))))))
    obtain rfl := Option.some.inj h1
    exact hK1 _ rfl _ ⟨[(0, .own 2097152 0 4 (p465.map eDLease)), (1, iV a1), (2, iV a2), (3, .clo f3 k3), (9, iV p466), (10, iV (IntKind.i64.wrap (p156 + 1)))], [], []⟩ (fg ⟨rfl, rfl, rfl, rfl, rfl, rfl, tv⟩ tv) rfl
   ·refine seq_ ?_
    refine block_ ?_
    obtain ⟨r504, e505, h1⟩ := bnd h1
    refine loop_ (R := (fun S => ∃ p492 : Int, p492 = r504 ∧ S = ⟨[(0, .own 2097152 0 4 (p154.map eDLease)), (1, iV a1), (2, iV a2), (3, .clo f3 k3), (9, iV p492), (10, iV p156)], [], []⟩)) (g153_l1 a2 is3 p154) (fun s S => match s with | p479 => S = ⟨[(0, .own 2097152 0 4 (p154.map eDLease)), (1, iV a1), (2, iV a2), (3, .clo f3 k3), (9, iV p479), (10, iV p156)], [], []⟩) e505 ⟨[(0, .own 2097152 0 4 (p154.map eDLease)), (1, iV a1), (2, iV a2), (3, .clo f3 k3), (9, iV p155), (10, iV p156)], [], []⟩ (fg ⟨rfl, rfl, rfl, rfl, rfl, rfl, tv⟩ tv) rfl 2 (fun _ => rfl) ?_ ?_
    ·rintro S _ hfg ⟨p492, rfl, rfl⟩
     refine wk_ ⟨[(0, .own 2097152 0 4 (p154.map eDLease)), (1, iV a1), (2, iV a2), (3, .clo f3 k3), (9, iV p492), (10, iV p156)], [], []⟩ (fgl hfg ⟨rfl, rfl, rfl, rfl, rfl, rfl, tv⟩ tv) (seq_ (seq_ (reg_ (st (mv_ rfl tv (st (mv_ rfl tv (st (c_ (cp_ t3 rfl tv) (oe_ (wk_ ⟨[(0, .own 2097152 0 4 (p154.map eDLease)), (1, iV a1), (2, iV a2), (3, .clo f3 k3), (9, iV p492), (10, iV p156), (41, .bool (p492 == a2))], [], []⟩ (fg ⟨rfl, rfl, rfl, rfl, rfl, rfl, rfl, tv⟩ tv) (ite_ (cb := (p492 == a2)) rfl (fun c506 => ?_) (fun c506 => ?_)))))))))))))
     ·replace h1 := ip c506 h1
      refine seq_ (reg_ (st (mvc_ tv (oe_ (wk_ ⟨[(0, .own 2097152 0 4 (p154.map eDLease)), (8, .bool true)], [], []⟩ (fgk (by kernel_rfl)) ?_)))))
      obtain rfl := Option.some.inj h1
      obtain rfl := hx1 _ rfl
      obtain rfl := Option.some.inj h0
      exact rt_ (hR1 _ (ret_ rfl rfl rfl rfl rfl ⟨⟨rfl, mlen (fun _ => rfl)⟩, tv⟩))
     ·replace h1 := inb c506 h1
      refine sk_ (wk_ ⟨[(0, .own 2097152 0 4 (p154.map eDLease)), (1, iV a1), (2, iV a2), (3, .clo f3 k3), (9, iV p492), (10, iV p156)], [], []⟩ (fg ⟨rfl, rfl, rfl, rfl, rfl, rfl, tv⟩ tv) (seq_ (seq_ (reg_ (st (mv_ rfl tv (st (mv_ rfl tv (st (c_ (cp_ t3 rfl tv) (st (c_ (cp_ t3 rfl tv) (oe_ (wk_ ⟨[(0, .own 2097152 0 4 (p154.map eDLease)), (1, iV a1), (2, iV a2), (3, .clo f3 k3), (9, iV p492), (10, iV p156), (45, .bool (decide ((IntKind.i64.wrap (a2 - a1)) < 50)))], [], []⟩ (fg ⟨rfl, rfl, rfl, rfl, rfl, rfl, rfl, tv⟩ tv) (ite_ (cb := (decide ((IntKind.i64.wrap (a2 - a1)) < 50))) rfl (fun c507 => ?_) (fun c507 => ?_))))))))))))))))
      ·replace h1 := ip c507 h1
       refine seq_ (reg_ (st (mvc_ tv (oe_ (wk_ ⟨[(0, .own 2097152 0 4 (p154.map eDLease)), (8, .bool false)], [], []⟩ (fgk (by kernel_rfl)) ?_)))))
       obtain rfl := Option.some.inj h1
       obtain rfl := hx1 _ rfl
       obtain rfl := Option.some.inj h0
       exact rt_ (hR1 _ (ret_ rfl rfl rfl rfl rfl ⟨⟨rfl, mlen (fun _ => rfl)⟩, tv⟩))
      ·replace h1 := inb c507 h1
       refine sk_ (wk_ ⟨[(0, .own 2097152 0 4 (p154.map eDLease)), (1, iV a1), (2, iV a2), (3, .clo f3 k3), (9, iV p492), (10, iV p156)], [], []⟩ (fg ⟨rfl, rfl, rfl, rfl, rfl, rfl, tv⟩ tv) (seq_ ?_))
       obtain ⟨y508, e509, h1⟩ := bnd h1
       obtain ⟨y510, e511, h1⟩ := bnd h1
       obtain ⟨y512, e513, h1⟩ := bnd h1
       obtain ⟨y514, e515, h1⟩ := bnd h1
       obtain ⟨y516, e517, h1⟩ := bnd h1
       obtain ⟨y518, e519, h1⟩ := bnd h1
       refine draw_ (dtake tv (mv_ rfl tv (⟨tv, (dtake tv (mv_ rfl tv (⟨tv, (dtake tv (mv_ rfl tv (⟨tv, (dtake tv (mv_ rfl tv (⟨tv, (dtake tv (c_ (cp_ t3 rfl tv) (⟨tv, (dtake tv (mv_ rfl tv (⟨tv, (dtake tv (mv_ rfl tv (⟨tv, (dtake tv (c_ (cp_ t3 rfl tv) (⟨tv, (dtake tv (c_ (cidxO (e := eDLease) (y := y508) rfl rfl tv rfl rfl tv e509) (⟨tv, (dtakeO (c_ (v := .agg (eDLease y510)) (cloadO (e := eDLease) (y := y510) (v := .agg (eDLease y510)) rfl rfl tv rfl rfl e511 rfl (nl rfl) rfl) (⟨⟨(again1 (cloadO (e := eDLease) (y := y510) (v := .agg (eDLease y510)) rfl rfl tv rfl rfl e511 rfl (nl rfl) rfl) rfl), tv⟩, (dtake tv (mv_ rfl tv (⟨⟨(again1 (cloadO (e := eDLease) (y := y510) (v := .agg (eDLease y510)) rfl rfl tv rfl rfl e511 rfl (nl rfl) rfl) rfl), tv⟩, (dtake tv (mv_ rfl tv (⟨⟨(again1 (cloadO (e := eDLease) (y := y510) (v := .agg (eDLease y510)) rfl rfl tv rfl rfl e511 rfl (nl rfl) rfl) rfl), tv⟩, (dtake tv (c_ (cidxO (e := eDLease) (y := y512) rfl rfl tv rfl rfl tv e513) (⟨⟨(again1 (cloadO (e := eDLease) (y := y510) (v := .agg (eDLease y510)) rfl rfl tv rfl rfl e511 rfl (nl rfl) rfl) rfl), tv⟩, (dtakeO (c_ (v := .agg (eDLease y514)) (cloadO (e := eDLease) (y := y514) (v := .agg (eDLease y514)) rfl rfl tv rfl rfl e515 rfl (nl rfl) rfl) (⟨⟨(again1 (cloadO (e := eDLease) (y := y514) (v := .agg (eDLease y514)) rfl rfl tv rfl rfl e515 rfl (nl rfl) rfl) rfl), (again1 (cloadO (e := eDLease) (y := y510) (v := .agg (eDLease y510)) rfl rfl tv rfl rfl e511 rfl (nl rfl) rfl) rfl), tv⟩, (dtake tv (c_ (cidxO (e := eDLease) (y := y512) rfl rfl tv rfl rfl tv e513) (⟨⟨(again1 (cloadO (e := eDLease) (y := y514) (v := .agg (eDLease y514)) rfl rfl tv rfl rfl e515 rfl (nl rfl) rfl) rfl), (again1 (cloadO (e := eDLease) (y := y510) (v := .agg (eDLease y510)) rfl rfl tv rfl rfl e511 rfl (nl rfl) rfl) rfl), tv⟩, ?_⟩)))⟩)))⟩)))⟩)))⟩)))⟩)))⟩)))⟩)))⟩)))⟩)))⟩)))⟩)))⟩)))⟩)))⟩)))
       refine dalt (sto_ (y' := y510) rfl rfl tv rfl rfl rfl rfl e515 (nl rfl) rfl rfl rfl rfl (dkw ⟨[(0, .own 2097152 0 4 ((p154.set p492.toNat y510).map eDLease)), (1, iV a1), (2, iV a2), (3, .clo f3 k3), (9, iV p492), (10, iV p156), (48, .own 2097152 0 4 ((p154.set p492.toNat y510).map eDLease)), (49, iV p492), (50, iV (IntKind.i64.wrap (p492 - 1))), (59, .agg (eDLease y514))], [], []⟩ (fg ⟨(congrArg (fun z => some ((.own 2097152 0 4 z : V))) overlay_map), rfl, rfl, rfl, rfl, rfl, (congrArg (fun z => some ((.own 2097152 0 4 z : V))) overlay_map), rfl, rfl, rfl, tv⟩ tv) ⟨[], ⟨⟨.inl tv, (again1 (cp_ t3 rfl tv) rfl)⟩, ⟨.inl tv, (again1 (cmv (v := iV p492) rfl tv) rfl)⟩, ⟨.inl tv, (again1 (cmv (v := .own 2097152 0 4 ((p154.set p492.toNat y510).map eDLease)) rfl tv) rfl)⟩, tv⟩, tv, (dtake tv (c_ (cidxO (e := eDLease) (y := y516) rfl rfl tv rfl rfl tv e517) (⟨tv, (dalt (sto_ (y' := y514) rfl rfl tv rfl rfl rfl rfl e519 (nl rfl) rfl rfl rfl rfl (dk0 ⟨[], tv, tv, (dfin (wk_ ⟨[(0, .own 2097152 0 4 (((p154.set p492.toNat y510).set ((IntKind.i64.wrap (p492 - 1)).toNat) y514).map eDLease)), (1, iV a1), (2, iV a2), (3, .clo f3 k3), (9, iV p492), (10, iV p156)], [], []⟩ (fg ⟨(congrArg (fun z => some ((.own 2097152 0 4 z : V))) overlay_map), rfl, rfl, rfl, rfl, rfl, tv⟩ tv) (seq_ (seq_ (reg_ (st (mv_ rfl tv (st (mv_ rfl tv (st (c_ (cp_ t3 rfl tv) (st (c_ (cp_ t3 rfl tv) (oe_ ?_))))))))))))))⟩)) dstop)⟩)))⟩)) dstop
       obtain ⟨v520, e521, h1⟩ := bl h1
       refine wk_ ⟨[(0, .own 2097152 0 4 (v520.map eDLease)), (1, iV a1), (2, iV a2), (3, .clo f3 k3), (9, iV p492), (10, iV p156), (65, .bool (decide ((IntKind.i64.wrap (p492 - a1)) ≥ 2)))], [], []⟩ (fg ⟨(by subst e521; rfl), (by subst e521; rfl), (by subst e521; rfl), (by subst e521; rfl), (by subst e521; rfl), (by subst e521; rfl), (by subst e521; rfl), tv⟩ tv) (iteJ (cb := (decide ((IntKind.i64.wrap (p492 - a1)) ≥ 2))) (fun S => ∃ p576 : List DLease, S = ⟨[(0, .own 2097152 0 4 (p576.map eDLease)), (1, iV a1), (2, iV a2), (3, .clo f3 k3), (9, iV p492), (10, iV p156)], [], []⟩ ∧ g153_j1 a2 is3 p156 p492 p576 = some o1) rfl ?_ (fun c658 J657 => ?_) (fun c658 J657 => ?_))
       ·rintro _ ⟨p576, rfl, h1⟩
        refine wk_ ⟨[(0, .own 2097152 0 4 (p576.map eDLease)), (1, iV a1), (2, iV a2), (3, .clo f3 k3), (9, iV p492), (10, iV p156)], [], []⟩ (fg ⟨rfl, rfl, rfl, rfl, rfl, rfl, tv⟩ tv) (seq_ (reg_ (st (mv_ rfl tv (st (mv_ rfl tv (st (c_ (cp_ t3 rfl tv) (st (c_ (cp_ t3 rfl tv) (oe_ (wk_ ⟨[(0, .own 2097152 0 4 (p576.map eDLease)), (1, iV a1), (2, iV a2), (3, .clo f3 k3), (9, iV p492), (10, iV p156), (104, .bool (decide ((IntKind.i64.wrap (a2 - p492)) ≥ 2)))], [], []⟩ (fg ⟨rfl, rfl, rfl, rfl, rfl, rfl, rfl, tv⟩ tv) (ite_ (cb := (decide ((IntKind.i64.wrap (a2 - p492)) ≥ 2))) rfl (fun c577 => ?_) (fun c577 => ?_))))))))))))))
        ·replace h1 := ip c577 h1
         refine seq_ (reg_ (st (mv_ rfl tv (st (c_ (cp_ t3 rfl tv) (st (mv_ rfl tv (oe_ (wk_ ⟨[(0, .own 2097152 0 4 (p576.map eDLease)), (1, iV a1), (2, iV a2), (3, .clo f3 k3), (9, iV p492), (10, iV p156), (12, iV (IntKind.i64.wrap (p492 + 1)))], [], []⟩ (fg ⟨rfl, rfl, rfl, rfl, rfl, rfl, rfl, tv⟩ tv) (block_ ?_))))))))))
         obtain ⟨r655, e656, h1⟩ := bnd h1
         refine loop_ (R := (fun S => ∃ p630 : List DLease, p630 = r655 ∧ S = ⟨[(0, .own 2097152 0 4 (p630.map eDLease)), (1, iV a1), (2, iV a2), (3, .clo f3 k3), (9, iV p492), (10, iV p156)], [], []⟩)) (g153_l2 a2 is3) (fun s S => match s with | (p602, p603) => S = ⟨[(0, .own 2097152 0 4 (p602.map eDLease)), (1, iV a1), (2, iV a2), (3, .clo f3 k3), (9, iV p492), (10, iV p156), (12, iV p603)], [], []⟩) e656 ⟨[(0, .own 2097152 0 4 (p576.map eDLease)), (1, iV a1), (2, iV a2), (3, .clo f3 k3), (9, iV p492), (10, iV p156), (12, iV (IntKind.i64.wrap (p492 + 1)))], [], []⟩ (fg ⟨rfl, rfl, rfl, rfl, rfl, rfl, rfl, tv⟩ tv) rfl 6 (fun _ => rfl) ?_ ?_
         ·rintro S _ hfg ⟨p630, rfl, rfl⟩
          refine bn_ ?_
          exact J467 _ ⟨[(0, .own 2097152 0 4 (p630.map eDLease)), (1, iV a1), (2, iV a2), (3, .clo f3 k3), (9, iV p492), (10, iV p156)], [], []⟩ (fgl hfg ⟨rfl, rfl, rfl, rfl, rfl, rfl, tv⟩ tv) ⟨_, _, rfl, h1⟩
         ·rintro ⟨p602, p603⟩ o2 _ K2 rfl h2 hx2 hK2 hE2 hR2
          refine seq_ (seq_ (reg_ (st (mv_ rfl tv (st (mv_ rfl tv (st (c_ (cp_ t3 rfl tv) (oe_ (wk_ ⟨[(0, .own 2097152 0 4 (p602.map eDLease)), (1, iV a1), (2, iV a2), (3, .clo f3 k3), (9, iV p492), (10, iV p156), (12, iV p603), (109, .bool (decide (p603 < a2)))], [], []⟩ (fg ⟨rfl, rfl, rfl, rfl, rfl, rfl, rfl, rfl, tv⟩ tv) (ite_ (cb := (decide (p603 < a2))) rfl (fun c631 => ?_) (fun c631 => ?_))))))))))))
          ·replace h2 := ip c631 h2
           refine sk_ (wk_ ⟨[(0, .own 2097152 0 4 (p602.map eDLease)), (1, iV a1), (2, iV a2), (3, .clo f3 k3), (9, iV p492), (10, iV p156), (12, iV p603)], [], []⟩ (fg ⟨rfl, rfl, rfl, rfl, rfl, rfl, rfl, tv⟩ tv) (seq_ (block_ (seq_ (seq_ ?_)))))
           obtain ⟨y632, e633, h2⟩ := bnd h2
           obtain ⟨y634, e635, h2⟩ := bnd h2
           obtain ⟨y636, e637, h2⟩ := bnd h2
           obtain ⟨y638, e639, h2⟩ := bnd h2
           obtain ⟨r640, e641, h2⟩ := bnd h2
           refine draw_ (dtake tv (mv_ rfl tv (⟨tv, (dtake tv (mv_ rfl tv (⟨tv, (dtake tv (mv_ rfl tv (⟨tv, (dtake tv (c_ (cidxO (e := eDLease) (y := y632) rfl rfl tv rfl rfl tv e633) (⟨tv, (dtakeO (c_ (v := .agg (eDLease y634)) (cloadO (e := eDLease) (y := y634) (v := .agg (eDLease y634)) rfl rfl tv rfl rfl e635 rfl (nl rfl) rfl) (⟨⟨(again1 (cloadO (e := eDLease) (y := y634) (v := .agg (eDLease y634)) rfl rfl tv rfl rfl e635 rfl (nl rfl) rfl) rfl), tv⟩, (dtake tv (mv_ rfl tv (⟨⟨(again1 (cloadO (e := eDLease) (y := y634) (v := .agg (eDLease y634)) rfl rfl tv rfl rfl e635 rfl (nl rfl) rfl) rfl), tv⟩, (dtake tv (mv_ rfl tv (⟨⟨(again1 (cloadO (e := eDLease) (y := y634) (v := .agg (eDLease y634)) rfl rfl tv rfl rfl e635 rfl (nl rfl) rfl) rfl), tv⟩, (dtake tv (c_ (cp_ t3 rfl tv) (⟨⟨(again1 (cloadO (e := eDLease) (y := y634) (v := .agg (eDLease y634)) rfl rfl tv rfl rfl e635 rfl (nl rfl) rfl) rfl), tv⟩, (dtake tv (c_ (cidxO (e := eDLease) (y := y636) rfl rfl tv rfl rfl tv e637) (⟨⟨(again1 (cloadO (e := eDLease) (y := y634) (v := .agg (eDLease y634)) rfl rfl tv rfl rfl e635 rfl (nl rfl) rfl) rfl), tv⟩, (dtakeO (c_ (v := .agg (eDLease y638)) (cloadO (e := eDLease) (y := y638) (v := .agg (eDLease y638)) rfl rfl tv rfl rfl e639 rfl (nl rfl) rfl) (⟨⟨(again1 (cloadO (e := eDLease) (y := y638) (v := .agg (eDLease y638)) rfl rfl tv rfl rfl e639 rfl (nl rfl) rfl) rfl), (again1 (cloadO (e := eDLease) (y := y634) (v := .agg (eDLease y634)) rfl rfl tv rfl rfl e635 rfl (nl rfl) rfl) rfl), tv⟩, (dalt (callv0_ (r := iV r640) rfl false (hf3 _ _ r640 e641) ⟨tv, tv, tv⟩ (and_ rfl (and_ rfl hs3.2.2.1)) (mapc1 rfl (mapc1 rfl (hs3.2.1 _ _ _ _ _))) (fun _ => rfl) (dkw ⟨[(0, .own 2097152 0 4 (p602.map eDLease)), (1, iV a1), (2, iV a2), (3, .clo f3 k3), (9, iV p492), (10, iV p156), (12, iV p603), (122, iV r640)], [], []⟩ (fg ⟨rfl, rfl, rfl, rfl, rfl, rfl, rfl, rfl, tv⟩ tv) ⟨[], tv, tv, (dtake tv (c_ (cp_ t3 rfl tv) (⟨tv, (dtake tv (c_ (cp_ ⟨tv, tv⟩ rfl tv) (⟨tv, (dfin (wk_ ⟨[(0, .own 2097152 0 4 (p602.map eDLease)), (1, iV a1), (2, iV a2), (3, .clo f3 k3), (9, iV p492), (10, iV p156), (12, iV p603), (124, .bool (!(decide (r640 < 0))))], [], []⟩ (fg ⟨rfl, rfl, rfl, rfl, rfl, rfl, rfl, rfl, tv⟩ tv) (ite_ (cb := (!(decide (r640 < 0)))) rfl (fun c642 => ?_) (fun c642 => ?_))))⟩)))⟩)))⟩)) dstop)⟩)))⟩)))⟩)))⟩)))⟩)))⟩)))⟩)))⟩)))⟩)))⟩)))
           ·replace h2 := ip c642 h2
            obtain rfl := Option.some.inj h2
            obtain rfl := hx2 _ rfl
            refine exQ rfl ?_
            exact hE2 _ ⟨[(0, .own 2097152 0 4 (p602.map eDLease)), (1, iV a1), (2, iV a2), (3, .clo f3 k3), (9, iV p492), (10, iV p156)], [], []⟩ (fg ⟨rfl, rfl, rfl, rfl, rfl, rfl, tv⟩ tv) ⟨_, rfl, rfl⟩
           ·replace h2 := inb c642 h2
            refine sk_ (wk_ ⟨[(0, .own 2097152 0 4 (p602.map eDLease)), (1, iV a1), (2, iV a2), (3, .clo f3 k3), (9, iV p492), (10, iV p156), (12, iV p603)], [], []⟩ (fg ⟨rfl, rfl, rfl, rfl, rfl, rfl, rfl, tv⟩ tv) ?_)
            obtain ⟨y643, e644, h2⟩ := bnd h2
            obtain ⟨y645, e646, h2⟩ := bnd h2
            obtain ⟨y647, e648, h2⟩ := bnd h2
            obtain ⟨y649, e650, h2⟩ := bnd h2
            obtain ⟨y651, e652, h2⟩ := bnd h2
            obtain ⟨y653, e654, h2⟩ := bnd h2
            refine draw_ (dtake tv (mv_ rfl tv (⟨tv, (dtake tv (mv_ rfl tv (⟨tv, (dtake tv (mv_ rfl tv (⟨tv, (dtake tv (mv_ rfl tv (⟨tv, (dtake tv (c_ (cp_ t3 rfl tv) (⟨tv, (dtake tv (mv_ rfl tv (⟨tv, (dtake tv (mv_ rfl tv (⟨tv, (dtake tv (c_ (cp_ t3 rfl tv) (⟨tv, (dtake tv (c_ (cidxO (e := eDLease) (y := y643) rfl rfl tv rfl rfl tv e644) (⟨tv, (dtakeO (c_ (v := .agg (eDLease y645)) (cloadO (e := eDLease) (y := y645) (v := .agg (eDLease y645)) rfl rfl tv rfl rfl e646 rfl (nl rfl) rfl) (⟨⟨(again1 (cloadO (e := eDLease) (y := y645) (v := .agg (eDLease y645)) rfl rfl tv rfl rfl e646 rfl (nl rfl) rfl) rfl), tv⟩, (dtake tv (mv_ rfl tv (⟨⟨(again1 (cloadO (e := eDLease) (y := y645) (v := .agg (eDLease y645)) rfl rfl tv rfl rfl e646 rfl (nl rfl) rfl) rfl), tv⟩, (dtake tv (mv_ rfl tv (⟨⟨(again1 (cloadO (e := eDLease) (y := y645) (v := .agg (eDLease y645)) rfl rfl tv rfl rfl e646 rfl (nl rfl) rfl) rfl), tv⟩, (dtake tv (c_ (cidxO (e := eDLease) (y := y647) rfl rfl tv rfl rfl tv e648) (⟨⟨(again1 (cloadO (e := eDLease) (y := y645) (v := .agg (eDLease y645)) rfl rfl tv rfl rfl e646 rfl (nl rfl) rfl) rfl), tv⟩, (dtakeO (c_ (v := .agg (eDLease y649)) (cloadO (e := eDLease) (y := y649) (v := .agg (eDLease y649)) rfl rfl tv rfl rfl e650 rfl (nl rfl) rfl) (⟨⟨(again1 (cloadO (e := eDLease) (y := y649) (v := .agg (eDLease y649)) rfl rfl tv rfl rfl e650 rfl (nl rfl) rfl) rfl), (again1 (cloadO (e := eDLease) (y := y645) (v := .agg (eDLease y645)) rfl rfl tv rfl rfl e646 rfl (nl rfl) rfl) rfl), tv⟩, (dtake tv (c_ (cidxO (e := eDLease) (y := y647) rfl rfl tv rfl rfl tv e648) (⟨⟨(again1 (cloadO (e := eDLease) (y := y649) (v := .agg (eDLease y649)) rfl rfl tv rfl rfl e650 rfl (nl rfl) rfl) rfl), (again1 (cloadO (e := eDLease) (y := y645) (v := .agg (eDLease y645)) rfl rfl tv rfl rfl e646 rfl (nl rfl) rfl) rfl), tv⟩, ?_⟩)))⟩)))⟩)))⟩)))⟩)))⟩)))⟩)))⟩)))⟩)))⟩)))⟩)))⟩)))⟩)))⟩)))⟩)))
            refine dalt (sto_ (y' := y645) rfl rfl tv rfl rfl rfl rfl e650 (nl rfl) rfl rfl rfl rfl (dkw ⟨[(0, .own 2097152 0 4 ((p602.set p603.toNat y645).map eDLease)), (1, iV a1), (2, iV a2), (3, .clo f3 k3), (9, iV p492), (10, iV p156), (12, iV p603), (127, .own 2097152 0 4 ((p602.set p603.toNat y645).map eDLease)), (128, iV p603), (129, iV (IntKind.i64.wrap (p603 - 1))), (138, .agg (eDLease y649))], [], []⟩ (fg ⟨(congrArg (fun z => some ((.own 2097152 0 4 z : V))) overlay_map), rfl, rfl, rfl, rfl, rfl, rfl, (congrArg (fun z => some ((.own 2097152 0 4 z : V))) overlay_map), rfl, rfl, rfl, tv⟩ tv) ⟨[], ⟨⟨.inl tv, (again1 (cp_ t3 rfl tv) rfl)⟩, ⟨.inl tv, (again1 (cmv (v := iV p603) rfl tv) rfl)⟩, ⟨.inl tv, (again1 (cmv (v := .own 2097152 0 4 ((p602.set p603.toNat y645).map eDLease)) rfl tv) rfl)⟩, tv⟩, tv, (dtake tv (c_ (cidxO (e := eDLease) (y := y651) rfl rfl tv rfl rfl tv e652) (⟨tv, (dalt (sto_ (y' := y649) rfl rfl tv rfl rfl rfl rfl e654 (nl rfl) rfl rfl rfl rfl (dk0 ⟨[], tv, tv, (dfin (bn_ (wk_ ⟨[(0, .own 2097152 0 4 (((p602.set p603.toNat y645).set ((IntKind.i64.wrap (p603 - 1)).toNat) y649).map eDLease)), (1, iV a1), (2, iV a2), (3, .clo f3 k3), (9, iV p492), (10, iV p156), (12, iV p603)], [], []⟩ (fg ⟨(congrArg (fun z => some ((.own 2097152 0 4 z : V))) overlay_map), rfl, rfl, rfl, rfl, rfl, rfl, tv⟩ tv) (reg_ (st (mv_ rfl tv (st (c_ (cp_ t3 rfl tv) (st (mv_ rfl tv (oe_ ?_)))))))))))⟩)) dstop)⟩)))⟩)) dstop
            obtain rfl := Option.some.inj h2
            exact hK2 _ rfl _ ⟨[(0, .own 2097152 0 4 (((p602.set p603.toNat y645).set ((IntKind.i64.wrap (p603 - 1)).toNat) y649).map eDLease)), (1, iV a1), (2, iV a2), (3, .clo f3 k3), (9, iV p492), (10, iV p156), (12, iV (IntKind.i64.wrap (p603 + 1)))], [], []⟩ (fg ⟨rfl, rfl, rfl, rfl, rfl, rfl, rfl, tv⟩ tv) rfl
          ·replace h2 := inb c631 h2
           obtain rfl := Option.some.inj h2
           obtain rfl := hx2 _ rfl
           refine exQ rfl ?_
           exact hE2 _ ⟨[(0, .own 2097152 0 4 (p602.map eDLease)), (1, iV a1), (2, iV a2), (3, .clo f3 k3), (9, iV p492), (10, iV p156)], [], []⟩ (fg ⟨rfl, rfl, rfl, rfl, rfl, rfl, tv⟩ tv) ⟨_, rfl, rfl⟩
        ·replace h1 := inb c577 h1
         refine sk_ (bn_ ?_)
         exact J467 _ ⟨[(0, .own 2097152 0 4 (p576.map eDLease)), (1, iV a1), (2, iV a2), (3, .clo f3 k3), (9, iV p492), (10, iV p156)], [], []⟩ (fg ⟨rfl, rfl, rfl, rfl, rfl, rfl, tv⟩ tv) ⟨_, _, rfl, h1⟩
       ·replace h1 := ip c658 h1
        refine seq_ (reg_ (st (mv_ rfl tv (st (c_ (cp_ t3 rfl tv) (st (mv_ rfl tv (oe_ (wk_ ⟨[(0, .own 2097152 0 4 (v520.map eDLease)), (1, iV a1), (2, iV a2), (3, .clo f3 k3), (9, iV p492), (10, iV p156), (11, iV (IntKind.i64.wrap (p492 - 1)))], [], []⟩ (fg ⟨rfl, rfl, rfl, rfl, rfl, rfl, rfl, tv⟩ tv) (block_ ?_))))))))))
        obtain ⟨r736, e737, h1⟩ := bnd h1
        refine loop_ (R := (fun S => ∃ p711 : List DLease, p711 = r736 ∧ S = ⟨[(0, .own 2097152 0 4 (p711.map eDLease)), (1, iV a1), (2, iV a2), (3, .clo f3 k3), (9, iV p492), (10, iV p156)], [], []⟩)) (g153_l3 is3) (fun s S => match s with | (p683, p684) => S = ⟨[(0, .own 2097152 0 4 (p683.map eDLease)), (1, iV a1), (2, iV a2), (3, .clo f3 k3), (9, iV p492), (10, iV p156), (11, iV p684)], [], []⟩) e737 ⟨[(0, .own 2097152 0 4 (v520.map eDLease)), (1, iV a1), (2, iV a2), (3, .clo f3 k3), (9, iV p492), (10, iV p156), (11, iV (IntKind.i64.wrap (p492 - 1)))], [], []⟩ (fg ⟨rfl, rfl, rfl, rfl, rfl, rfl, rfl, tv⟩ tv) rfl 4 (fun _ => rfl) ?_ ?_
        ·rintro S _ hfg ⟨p711, rfl, rfl⟩
         exact J657 _ ⟨[(0, .own 2097152 0 4 (p711.map eDLease)), (1, iV a1), (2, iV a2), (3, .clo f3 k3), (9, iV p492), (10, iV p156)], [], []⟩ (fgl hfg ⟨rfl, rfl, rfl, rfl, rfl, rfl, tv⟩ tv) ⟨_, rfl, h1⟩
        ·rintro ⟨p683, p684⟩ o2 _ K2 rfl h2 hx2 hK2 hE2 hR2
         refine seq_ (seq_ (reg_ (st (mv_ rfl tv (st (c_ (cp_ t3 rfl tv) (oe_ (wk_ ⟨[(0, .own 2097152 0 4 (p683.map eDLease)), (1, iV a1), (2, iV a2), (3, .clo f3 k3), (9, iV p492), (10, iV p156), (11, iV p684), (69, .bool (decide (p684 ≥ 1)))], [], []⟩ (fg ⟨rfl, rfl, rfl, rfl, rfl, rfl, rfl, rfl, tv⟩ tv) (ite_ (cb := (decide (p684 ≥ 1))) rfl (fun c712 => ?_) (fun c712 => ?_))))))))))
         ·replace h2 := ip c712 h2
          refine sk_ (wk_ ⟨[(0, .own 2097152 0 4 (p683.map eDLease)), (1, iV a1), (2, iV a2), (3, .clo f3 k3), (9, iV p492), (10, iV p156), (11, iV p684)], [], []⟩ (fg ⟨rfl, rfl, rfl, rfl, rfl, rfl, rfl, tv⟩ tv) (seq_ (block_ (seq_ (seq_ ?_)))))
          obtain ⟨y713, e714, h2⟩ := bnd h2
          obtain ⟨y715, e716, h2⟩ := bnd h2
          obtain ⟨y717, e718, h2⟩ := bnd h2
          obtain ⟨y719, e720, h2⟩ := bnd h2
          obtain ⟨r721, e722, h2⟩ := bnd h2
          refine draw_ (dtake tv (mv_ rfl tv (⟨tv, (dtake tv (mv_ rfl tv (⟨tv, (dtake tv (mv_ rfl tv (⟨tv, (dtake tv (c_ (cidxO (e := eDLease) (y := y713) rfl rfl tv rfl rfl tv e714) (⟨tv, (dtakeO (c_ (v := .agg (eDLease y715)) (cloadO (e := eDLease) (y := y715) (v := .agg (eDLease y715)) rfl rfl tv rfl rfl e716 rfl (nl rfl) rfl) (⟨⟨(again1 (cloadO (e := eDLease) (y := y715) (v := .agg (eDLease y715)) rfl rfl tv rfl rfl e716 rfl (nl rfl) rfl) rfl), tv⟩, (dtake tv (mv_ rfl tv (⟨⟨(again1 (cloadO (e := eDLease) (y := y715) (v := .agg (eDLease y715)) rfl rfl tv rfl rfl e716 rfl (nl rfl) rfl) rfl), tv⟩, (dtake tv (mv_ rfl tv (⟨⟨(again1 (cloadO (e := eDLease) (y := y715) (v := .agg (eDLease y715)) rfl rfl tv rfl rfl e716 rfl (nl rfl) rfl) rfl), tv⟩, (dtake tv (c_ (cp_ t3 rfl tv) (⟨⟨(again1 (cloadO (e := eDLease) (y := y715) (v := .agg (eDLease y715)) rfl rfl tv rfl rfl e716 rfl (nl rfl) rfl) rfl), tv⟩, (dtake tv (c_ (cidxO (e := eDLease) (y := y717) rfl rfl tv rfl rfl tv e718) (⟨⟨(again1 (cloadO (e := eDLease) (y := y715) (v := .agg (eDLease y715)) rfl rfl tv rfl rfl e716 rfl (nl rfl) rfl) rfl), tv⟩, (dtakeO (c_ (v := .agg (eDLease y719)) (cloadO (e := eDLease) (y := y719) (v := .agg (eDLease y719)) rfl rfl tv rfl rfl e720 rfl (nl rfl) rfl) (⟨⟨(again1 (cloadO (e := eDLease) (y := y719) (v := .agg (eDLease y719)) rfl rfl tv rfl rfl e720 rfl (nl rfl) rfl) rfl), (again1 (cloadO (e := eDLease) (y := y715) (v := .agg (eDLease y715)) rfl rfl tv rfl rfl e716 rfl (nl rfl) rfl) rfl), tv⟩, (dalt (callv0_ (r := iV r721) rfl false (hf3 _ _ r721 e722) ⟨tv, tv, tv⟩ (and_ rfl (and_ rfl hs3.2.2.1)) (mapc1 rfl (mapc1 rfl (hs3.2.1 _ _ _ _ _))) (fun _ => rfl) (dkw ⟨[(0, .own 2097152 0 4 (p683.map eDLease)), (1, iV a1), (2, iV a2), (3, .clo f3 k3), (9, iV p492), (10, iV p156), (11, iV p684), (82, iV r721)], [], []⟩ (fg ⟨rfl, rfl, rfl, rfl, rfl, rfl, rfl, rfl, tv⟩ tv) ⟨[], tv, tv, (dtake tv (c_ (cp_ t3 rfl tv) (⟨tv, (dtake tv (c_ (cp_ ⟨tv, tv⟩ rfl tv) (⟨tv, (dfin (wk_ ⟨[(0, .own 2097152 0 4 (p683.map eDLease)), (1, iV a1), (2, iV a2), (3, .clo f3 k3), (9, iV p492), (10, iV p156), (11, iV p684), (84, .bool (!(decide (r721 < 0))))], [], []⟩ (fg ⟨rfl, rfl, rfl, rfl, rfl, rfl, rfl, rfl, tv⟩ tv) (ite_ (cb := (!(decide (r721 < 0)))) rfl (fun c723 => ?_) (fun c723 => ?_))))⟩)))⟩)))⟩)) dstop)⟩)))⟩)))⟩)))⟩)))⟩)))⟩)))⟩)))⟩)))⟩)))⟩)))
          ·replace h2 := ip c723 h2
           obtain rfl := Option.some.inj h2
           obtain rfl := hx2 _ rfl
           refine exQ rfl ?_
           exact hE2 _ ⟨[(0, .own 2097152 0 4 (p683.map eDLease)), (1, iV a1), (2, iV a2), (3, .clo f3 k3), (9, iV p492), (10, iV p156)], [], []⟩ (fg ⟨rfl, rfl, rfl, rfl, rfl, rfl, tv⟩ tv) ⟨_, rfl, rfl⟩
          ·replace h2 := inb c723 h2
           refine sk_ (wk_ ⟨[(0, .own 2097152 0 4 (p683.map eDLease)), (1, iV a1), (2, iV a2), (3, .clo f3 k3), (9, iV p492), (10, iV p156), (11, iV p684)], [], []⟩ (fg ⟨rfl, rfl, rfl, rfl, rfl, rfl, rfl, tv⟩ tv) ?_)
           obtain ⟨y724, e725, h2⟩ := bnd h2
           obtain ⟨y726, e727, h2⟩ := bnd h2
           obtain ⟨y728, e729, h2⟩ := bnd h2
           obtain ⟨y730, e731, h2⟩ := bnd h2
           obtain ⟨y732, e733, h2⟩ := bnd h2
           obtain ⟨y734, e735, h2⟩ := bnd h2
           refine draw_ (dtake tv (mv_ rfl tv (⟨tv, (dtake tv (mv_ rfl tv (⟨tv, (dtake tv (mv_ rfl tv (⟨tv, (dtake tv (mv_ rfl tv (⟨tv, (dtake tv (c_ (cp_ t3 rfl tv) (⟨tv, (dtake tv (mv_ rfl tv (⟨tv, (dtake tv (mv_ rfl tv (⟨tv, (dtake tv (c_ (cp_ t3 rfl tv) (⟨tv, (dtake tv (c_ (cidxO (e := eDLease) (y := y724) rfl rfl tv rfl rfl tv e725) (⟨tv, (dtakeO (c_ (v := .agg (eDLease y726)) (cloadO (e := eDLease) (y := y726) (v := .agg (eDLease y726)) rfl rfl tv rfl rfl e727 rfl (nl rfl) rfl) (⟨⟨(again1 (cloadO (e := eDLease) (y := y726) (v := .agg (eDLease y726)) rfl rfl tv rfl rfl e727 rfl (nl rfl) rfl) rfl), tv⟩, (dtake tv (mv_ rfl tv (⟨⟨(again1 (cloadO (e := eDLease) (y := y726) (v := .agg (eDLease y726)) rfl rfl tv rfl rfl e727 rfl (nl rfl) rfl) rfl), tv⟩, (dtake tv (mv_ rfl tv (⟨⟨(again1 (cloadO (e := eDLease) (y := y726) (v := .agg (eDLease y726)) rfl rfl tv rfl rfl e727 rfl (nl rfl) rfl) rfl), tv⟩, (dtake tv (c_ (cidxO (e := eDLease) (y := y728) rfl rfl tv rfl rfl tv e729) (⟨⟨(again1 (cloadO (e := eDLease) (y := y726) (v := .agg (eDLease y726)) rfl rfl tv rfl rfl e727 rfl (nl rfl) rfl) rfl), tv⟩, (dtakeO (c_ (v := .agg (eDLease y730)) (cloadO (e := eDLease) (y := y730) (v := .agg (eDLease y730)) rfl rfl tv rfl rfl e731 rfl (nl rfl) rfl) (⟨⟨(again1 (cloadO (e := eDLease) (y := y730) (v := .agg (eDLease y730)) rfl rfl tv rfl rfl e731 rfl (nl rfl) rfl) rfl), (again1 (cloadO (e := eDLease) (y := y726) (v := .agg (eDLease y726)) rfl rfl tv rfl rfl e727 rfl (nl rfl) rfl) rfl), tv⟩, (dtake tv (c_ (cidxO (e := eDLease) (y := y728) rfl rfl tv rfl rfl tv e729) (⟨⟨(again1 (cloadO (e := eDLease) (y := y730) (v := .agg (eDLease y730)) rfl rfl tv rfl rfl e731 rfl (nl rfl) rfl) rfl), (again1 (cloadO (e := eDLease) (y := y726) (v := .agg (eDLease y726)) rfl rfl tv rfl rfl e727 rfl (nl rfl) rfl) rfl), tv⟩, ?_⟩)))⟩)))⟩)))⟩)))⟩)))⟩)))⟩)))⟩)))⟩)))⟩)))⟩)))⟩)))⟩)))⟩)))⟩)))
           refine dalt (sto_ (y' := y726) rfl rfl tv rfl rfl rfl rfl e731 (nl rfl) rfl rfl rfl rfl (dkw ⟨[(0, .own 2097152 0 4 ((p683.set p684.toNat y726).map eDLease)), (1, iV a1), (2, iV a2), (3, .clo f3 k3), (9, iV p492), (10, iV p156), (11, iV p684), (87, .own 2097152 0 4 ((p683.set p684.toNat y726).map eDLease)), (88, iV p684), (89, iV (IntKind.i64.wrap (p684 - 1))), (98, .agg (eDLease y730))], [], []⟩ (fg ⟨(congrArg (fun z => some ((.own 2097152 0 4 z : V))) overlay_map), rfl, rfl, rfl, rfl, rfl, rfl, (congrArg (fun z => some ((.own 2097152 0 4 z : V))) overlay_map), rfl, rfl, rfl, tv⟩ tv) ⟨[], ⟨⟨.inl tv, (again1 (cp_ t3 rfl tv) rfl)⟩, ⟨.inl tv, (again1 (cmv (v := iV p684) rfl tv) rfl)⟩, ⟨.inl tv, (again1 (cmv (v := .own 2097152 0 4 ((p683.set p684.toNat y726).map eDLease)) rfl tv) rfl)⟩, tv⟩, tv, (dtake tv (c_ (cidxO (e := eDLease) (y := y732) rfl rfl tv rfl rfl tv e733) (⟨tv, (dalt (sto_ (y' := y730) rfl rfl tv rfl rfl rfl rfl e735 (nl rfl) rfl rfl rfl rfl (dk0 ⟨[], tv, tv, (dfin (bn_ (wk_ ⟨[(0, .own 2097152 0 4 (((p683.set p684.toNat y726).set ((IntKind.i64.wrap (p684 - 1)).toNat) y730).map eDLease)), (1, iV a1), (2, iV a2), (3, .clo f3 k3), (9, iV p492), (10, iV p156), (11, iV p684)], [], []⟩ (fg ⟨(congrArg (fun z => some ((.own 2097152 0 4 z : V))) overlay_map), rfl, rfl, rfl, rfl, rfl, rfl, tv⟩ tv) (reg_ (st (mv_ rfl tv (st (c_ (cp_ t3 rfl tv) (st (mv_ rfl tv (oe_ ?_)))))))))))⟩)) dstop)⟩)))⟩)) dstop
           obtain rfl := Option.some.inj h2
           exact hK2 _ rfl _ ⟨[(0, .own 2097152 0 4 (((p683.set p684.toNat y726).set ((IntKind.i64.wrap (p684 - 1)).toNat) y730).map eDLease)), (1, iV a1), (2, iV a2), (3, .clo f3 k3), (9, iV p492), (10, iV p156), (11, iV (IntKind.i64.wrap (p684 - 1)))], [], []⟩ (fg ⟨rfl, rfl, rfl, rfl, rfl, rfl, rfl, tv⟩ tv) rfl
         ·replace h2 := inb c712 h2
          obtain rfl := Option.some.inj h2
          obtain rfl := hx2 _ rfl
          refine exQ rfl ?_
          exact hE2 _ ⟨[(0, .own 2097152 0 4 (p683.map eDLease)), (1, iV a1), (2, iV a2), (3, .clo f3 k3), (9, iV p492), (10, iV p156)], [], []⟩ (fg ⟨rfl, rfl, rfl, rfl, rfl, rfl, tv⟩ tv) ⟨_, rfl, rfl⟩
       ·replace h1 := inb c658 h1
        refine sk_ ?_
        exact J657 _ ⟨[(0, .own 2097152 0 4 (v520.map eDLease)), (1, iV a1), (2, iV a2), (3, .clo f3 k3), (9, iV p492), (10, iV p156)], [], []⟩ (fg ⟨rfl, rfl, rfl, rfl, rfl, rfl, tv⟩ tv) ⟨_, rfl, h1⟩
    ·rintro p479 o2 _ K2 rfl h2 hx2 hK2 hE2 hR2
     refine seq_ (seq_ ?_)
     obtain ⟨y493, e494, h2⟩ := bnd h2
     obtain ⟨y495, e496, h2⟩ := bnd h2
     obtain ⟨y497, e498, h2⟩ := bnd h2
     obtain ⟨y499, e500, h2⟩ := bnd h2
     obtain ⟨r501, e502, h2⟩ := bnd h2
     refine draw_ (dtake tv (mv_ rfl tv (⟨tv, (dtake tv (mv_ rfl tv (⟨tv, (dtake tv (c_ (cp_ t3 rfl tv) (⟨tv, (dtake tv (mv_ rfl tv (⟨tv, (dtake tv (pg_ (u := .clo f3 k3) rfl (fun hg => (cmv (v := .clo f3 k3) rfl tv)) (⟨tv, (dtake tv (pg_ (u := .own 2097152 0 4 (p154.map eDLease)) rfl (fun hg => (cmv (v := .own 2097152 0 4 (p154.map eDLease)) rfl tv)) (⟨tv, (dtake tv (pg_ (u := iV p479) rfl (fun hg => (cmv (v := iV p479) rfl tv)) (⟨tv, (dtake tv (pg_ (u := .optr 2097152 4 (0 + p479.toNat) 0) rfl (fun hg => (cidxO (e := eDLease) (y := y493) rfl rfl (fun _ => hg) rfl rfl (fun _ => hg) (ip hg e494))) (⟨tv, (dtakeO (pg_ (u := .agg (eDLease y495)) rfl (fun hg => (cloadO (e := eDLease) (y := y495) (v := .agg (eDLease y495)) rfl rfl (fun _ => hg) rfl rfl (ip hg e496) rfl (nl rfl) rfl)) (⟨⟨(againg (v := .agg (eDLease y495)) rfl (fun hg => (cloadO (e := eDLease) (y := y495) (v := .agg (eDLease y495)) rfl rfl (fun _ => hg) rfl rfl (ip hg e496) rfl (nl rfl) rfl)) rfl), tv⟩, (dtake tv (pg_ (u := .own 2097152 0 4 (p154.map eDLease)) rfl (fun hg => (cmv (v := .own 2097152 0 4 (p154.map eDLease)) rfl tv)) (⟨⟨(againg (v := .agg (eDLease y495)) rfl (fun hg => (cloadO (e := eDLease) (y := y495) (v := .agg (eDLease y495)) rfl rfl (fun _ => hg) rfl rfl (ip hg e496) rfl (nl rfl) rfl)) rfl), tv⟩, (dtake tv (pg_ (u := iV p479) rfl (fun hg => (cmv (v := iV p479) rfl tv)) (⟨⟨(againg (v := .agg (eDLease y495)) rfl (fun hg => (cloadO (e := eDLease) (y := y495) (v := .agg (eDLease y495)) rfl rfl (fun _ => hg) rfl rfl (ip hg e496) rfl (nl rfl) rfl)) rfl), tv⟩, (dtake tv (pg_ (u := iV (IntKind.i64.wrap (p479 - 1))) rfl (fun hg => (cp_ ⟨(fun _ => hg), tv, tv⟩ rfl tv)) (⟨⟨(againg (v := .agg (eDLease y495)) rfl (fun hg => (cloadO (e := eDLease) (y := y495) (v := .agg (eDLease y495)) rfl rfl (fun _ => hg) rfl rfl (ip hg e496) rfl (nl rfl) rfl)) rfl), tv⟩, (dtake tv (pg_ (u := .optr 2097152 4 (0 + ((IntKind.i64.wrap (p479 - 1)).toNat)) 0) rfl (fun hg => (cidxO (e := eDLease) (y := y497) rfl rfl (fun _ => hg) rfl rfl (fun _ => hg) (ip hg e498))) (⟨⟨(againg (v := .agg (eDLease y495)) rfl (fun hg => (cloadO (e := eDLease) (y := y495) (v := .agg (eDLease y495)) rfl rfl (fun _ => hg) rfl rfl (ip hg e496) rfl (nl rfl) rfl)) rfl), tv⟩, (dtakeO (pg_ (u := .agg (eDLease y499)) rfl (fun hg => (cloadO (e := eDLease) (y := y499) (v := .agg (eDLease y499)) rfl rfl (fun _ => hg) rfl rfl (ip hg e500) rfl (nl rfl) rfl)) (⟨⟨(againg (v := .agg (eDLease y499)) rfl (fun hg => (cloadO (e := eDLease) (y := y499) (v := .agg (eDLease y499)) rfl rfl (fun _ => hg) rfl rfl (ip hg e500) rfl (nl rfl) rfl)) rfl), (againg (v := .agg (eDLease y495)) rfl (fun hg => (cloadO (e := eDLease) (y := y495) (v := .agg (eDLease y495)) rfl rfl (fun _ => hg) rfl rfl (ip hg e496) rfl (nl rfl) rfl)) rfl), tv⟩, (dalt (callvg_ (r := iV r501) rfl rfl rfl (fun hg => hg) false (fun hg => hf3 _ _ r501 (ip hg e502)) ⟨(fun hg => hg), (fun hg => hg), tv⟩ (fun _ => (and_ rfl (and_ rfl hs3.2.2.1))) (fun _ => (mapc1 rfl (mapc1 rfl (hs3.2.1 _ _ _ _ _)))) (fun _ => rfl) (fun h => nomatch h) (dkw ⟨[(0, .own 2097152 0 4 (p154.map eDLease)), (1, iV a1), (2, iV a2), (3, .clo f3 k3), (9, iV p479), (10, iV p156), (22, .bool (decide (p479 < a2))), (33, .may ((decide (p479 < a2)) == true) (iV r501))], [], []⟩ (fg ⟨rfl, rfl, rfl, rfl, rfl, rfl, rfl, rfl, tv⟩ tv) ⟨[], tv, tv, ?_⟩)) dstop)⟩)))⟩)))⟩)))⟩)))⟩)))⟩)))⟩)))⟩)))⟩)))⟩)))⟩)))⟩)))⟩)))⟩)))
     refine dtake tv (pg_ (u := .bool (decide (r501 < 0))) rfl (fun hg => (cp_ ⟨(fun _ => hg), tv, tv⟩ rfl tv)) (⟨tv, (dtake tv (pg_ (u := .bool (!(decide (r501 < 0)))) rfl (fun hg => (cp_ ⟨(fun _ => hg), tv⟩ rfl tv)) (⟨tv, (dtake tv (pick_ rfl rfl rfl (fun h => eqt h) tv rfl (⟨tv, (dfin (wk_ ⟨[(0, .own 2097152 0 4 (p154.map eDLease)), (1, iV a1), (2, iV a2), (3, .clo f3 k3), (9, iV p479), (10, iV p156), (36, .bool (bif (decide (p479 < a2)) then (!(decide (r501 < 0))) else false))], [], []⟩ (fg ⟨rfl, rfl, rfl, rfl, rfl, rfl, rfl, tv⟩ tv) (ite_ (cb := (bif (decide (p479 < a2)) then (!(decide (r501 < 0))) else false)) rfl (fun c503 => ?_) (fun c503 => ?_))))⟩)))⟩)))⟩))
     ·replace h2 := ip c503 h2
      refine sk_ (wk_ ⟨[(0, .own 2097152 0 4 (p154.map eDLease)), (1, iV a1), (2, iV a2), (3, .clo f3 k3), (9, iV p479), (10, iV p156)], [], []⟩ (fg ⟨rfl, rfl, rfl, rfl, rfl, rfl, tv⟩ tv) (block_ (reg_ (st (mv_ rfl tv (st (c_ (cp_ t3 rfl tv) (st (mv_ rfl tv (oe_ (bn_ ?_)))))))))))
      obtain rfl := Option.some.inj h2
      exact hK2 _ rfl _ ⟨[(0, .own 2097152 0 4 (p154.map eDLease)), (1, iV a1), (2, iV a2), (3, .clo f3 k3), (9, iV (IntKind.i64.wrap (p479 + 1))), (10, iV p156)], [], []⟩ (fg ⟨rfl, rfl, rfl, rfl, rfl, rfl, tv⟩ tv) rfl
     ·replace h2 := inb c503 h2
      obtain rfl := Option.some.inj h2
      obtain rfl := hx2 _ rfl
      refine exQ rfl ?_
      exact hE2 _ ⟨[(0, .own 2097152 0 4 (p154.map eDLease)), (1, iV a1), (2, iV a2), (3, .clo f3 k3), (9, iV p479), (10, iV p156)], [], []⟩ (fg ⟨rfl, rfl, rfl, rfl, rfl, rfl, tv⟩ tv) ⟨_, rfl, rfl⟩
  ·replace h1 := inb c314 h1
   obtain rfl := Option.some.inj h1
   obtain rfl := hx1 _ rfl
   refine exQ rfl ?_
   exact hE1 _ ⟨[(0, .own 2097152 0 4 (p154.map eDLease))], [], []⟩ (fgk (by kernel_rfl)) ⟨_, rfl, rfl⟩

/- slices.partitionEqualCmpFunc[loop.example/g00149/impl.Lease] -/
def c154_r0 : List Ins := [⟨some 10, .p (.mv (.c (iV 0))), none⟩]
def c154_r1 : DP := (.take (iQ 13 (.mv (.t 0)))
(.take (iQ 14 (.mv (.t 1)))
(.take (iQ 15 (.mv (.t 0)))
(.take (iQ 16 (.mv (.t 3)))
(.take (iQ 17 (.mv (.t 0)))
(.take (iQ 18 (.mv (.t 3)))
(.take (iQ 19 (.idxA (.t 17) (.t 18) 4))
(.take (iQ 20 (.load (.t 19) 4 true))
(.take (iQ 21 (.mv (.t 0)))
(.take (iQ 22 (.mv (.t 1)))
(.take (iQ 23 (.idxA (.t 21) (.t 22) 4))
(.take (iQ 24 (.load (.t 23) 4 true))
(.take (iQ 25 (.idxA (.t 13) (.t 14) 4))
(.alt [(iQ 16 (.mv (.t 3))), (iQ 15 (.mv (.t 0)))] ⟨none, .store (.t 25) (.t 20) 4, none⟩
(.take (iQ 26 (.idxA (.t 15) (.t 16) 4))
(.alt [] ⟨none, .store (.t 26) (.t 24) 4, none⟩
.fin
.stop))
.stop))))))))))))))
def c154_r2 : List Ins := [(iQ 27 (.mv (.t 1))),
⟨some 28, .p (.bin .add (.t 27) (.c (iV 1))), none⟩,
(iQ 29 (.mv (.t 2))),
⟨some 30, .p (.bin .sub (.t 29) (.c (iV 1))), none⟩,
(iQ 11 (.mv (.t 28))),
(iQ 12 (.mv (.t 30)))]
def c154_r3 : DP := (.take (iQ 31 (.mv (.t 11)))
(.take (iQ 32 (.mv (.t 12)))
(.take (iQ 33 (.bin .leq (.t 31) (.t 32)))
(.take (iQ 34 (.mv (.t 33)))
(.take ⟨some 35, .p (.mv (.t 4)), some (34, true)⟩
(.take ⟨some 36, .p (.mv (.t 0)), some (34, true)⟩
(.take ⟨some 37, .p (.mv (.t 1)), some (34, true)⟩
(.take ⟨some 38, .p (.idxA (.t 36) (.t 37) 4), some (34, true)⟩
(.take ⟨some 39, .p (.load (.t 38) 4 true), some (34, true)⟩
(.take ⟨some 40, .p (.mv (.t 0)), some (34, true)⟩
(.take ⟨some 41, .p (.mv (.t 11)), some (34, true)⟩
(.take ⟨some 42, .p (.idxA (.t 40) (.t 41) 4), some (34, true)⟩
(.take ⟨some 43, .p (.load (.t 42) 4 true), some (34, true)⟩
(.alt [] ⟨some 44, .callv (.t 35) [(.t 39), (.t 43)], some (34, true)⟩
(.take ⟨some 45, .p (.bin .lss (.t 44) (.c (iV 0))), some (34, true)⟩
(.take ⟨some 46, .p (.un .not (.t 45)), some (34, true)⟩
(.take ⟨some 47, .pick (.t 34) (.t 46) (.c (.bool false)), none⟩
.fin)))
.stop))))))))))))))
def c154_r4 : List Ins := [(iQ 48 (.mv (.t 11))),
⟨some 49, .p (.bin .add (.t 48) (.c (iV 1))), none⟩,
(iQ 11 (.mv (.t 49)))]
def c154_l0 : IR := (.seq (.seq (.draw c154_r3) (.ite (.t 47) .skip (.exit 2))) (.block 3 (.reg c154_r4)))
def c154_r5 : DP := (.take (iQ 50 (.mv (.t 11)))
(.take (iQ 51 (.mv (.t 12)))
(.take (iQ 52 (.bin .leq (.t 50) (.t 51)))
(.take (iQ 53 (.mv (.t 52)))
(.take ⟨some 54, .p (.mv (.t 4)), some (53, true)⟩
(.take ⟨some 55, .p (.mv (.t 0)), some (53, true)⟩
(.take ⟨some 56, .p (.mv (.t 1)), some (53, true)⟩
(.take ⟨some 57, .p (.idxA (.t 55) (.t 56) 4), some (53, true)⟩
(.take ⟨some 58, .p (.load (.t 57) 4 true), some (53, true)⟩
(.take ⟨some 59, .p (.mv (.t 0)), some (53, true)⟩
(.take ⟨some 60, .p (.mv (.t 12)), some (53, true)⟩
(.take ⟨some 61, .p (.idxA (.t 59) (.t 60) 4), some (53, true)⟩
(.take ⟨some 62, .p (.load (.t 61) 4 true), some (53, true)⟩
(.alt [] ⟨some 63, .callv (.t 54) [(.t 58), (.t 62)], some (53, true)⟩
(.take ⟨some 64, .p (.bin .lss (.t 63) (.c (iV 0))), some (53, true)⟩
(.take ⟨some 65, .pick (.t 53) (.t 64) (.c (.bool false)), none⟩
.fin))
.stop))))))))))))))
def c154_r6 : List Ins := [(iQ 66 (.mv (.t 12))),
⟨some 67, .p (.bin .sub (.t 66) (.c (iV 1))), none⟩,
(iQ 12 (.mv (.t 67)))]
def c154_l1 : IR := (.seq (.seq (.draw c154_r5) (.ite (.t 65) .skip (.exit 4))) (.block 5 (.reg c154_r6)))
def c154_r7 : List Ins := [(iQ 68 (.mv (.t 11))),
(iQ 69 (.mv (.t 12))),
(iQ 70 (.bin .gtr (.t 68) (.t 69)))]
def c154_r8 : DP := (.take (iQ 71 (.mv (.t 0)))
(.take (iQ 72 (.mv (.t 11)))
(.take (iQ 73 (.mv (.t 0)))
(.take (iQ 74 (.mv (.t 12)))
(.take (iQ 75 (.mv (.t 0)))
(.take (iQ 76 (.mv (.t 12)))
(.take (iQ 77 (.idxA (.t 75) (.t 76) 4))
(.take (iQ 78 (.load (.t 77) 4 true))
(.take (iQ 79 (.mv (.t 0)))
(.take (iQ 80 (.mv (.t 11)))
(.take (iQ 81 (.idxA (.t 79) (.t 80) 4))
(.take (iQ 82 (.load (.t 81) 4 true))
(.take (iQ 83 (.idxA (.t 71) (.t 72) 4))
(.alt [(iQ 74 (.mv (.t 12))), (iQ 73 (.mv (.t 0)))] ⟨none, .store (.t 83) (.t 78) 4, none⟩
(.take (iQ 84 (.idxA (.t 73) (.t 74) 4))
(.alt [] ⟨none, .store (.t 84) (.t 82) 4, none⟩
.fin
.stop))
.stop))))))))))))))
def c154_r9 : List Ins := [(iQ 85 (.mv (.t 11))),
⟨some 86, .p (.bin .add (.t 85) (.c (iV 1))), none⟩,
(iQ 11 (.mv (.t 86)))]
def c154_r10 : List Ins := [(iQ 87 (.mv (.t 12))),
⟨some 88, .p (.bin .sub (.t 87) (.c (iV 1))), none⟩,
(iQ 12 (.mv (.t 88)))]
def c154_l2 : IR := (.block 1 (.seq (.block 2 (.loop c154_l0)) (.seq (.block 4 (.loop c154_l1)) (.seq (.seq (.reg c154_r7) (.ite (.t 70) (.exit 0) .skip)) (.seq (.draw c154_r8) (.seq (.reg c154_r9) (.reg c154_r10)))))))
def c154_r11 : List Ins := [(iQ 89 (.mv (.t 11))),
(iQ 10 (.mv (.t 89)))]
def c154 : XFn := { np := 5, nt := 90, res := [.t 10], body := (.seq (.reg c154_r0) (.seq (.draw c154_r1) (.seq (.reg c154_r2) (.seq (.block 0 (.loop c154_l2)) (.seq (.reg c154_r11) .ret))))) }
def K154 (C : CRel) : Prop := ∀ (a0 : List DLease) (a1 : Int) (a2 : Int) (a3 : Int) (f4 : Nat) (k4 : List V) (is4 : DLease → DLease → Option Int) (hs4 : Shut k4) (hf4 : ∀ (x0 : DLease) (x1 : DLease) r, is4 x0 x1 = some r → C f4 ⟨.agg (eDLease x0) :: .agg (eDLease x1) :: k4, []⟩ ⟨iV r, [], []⟩) (r : Int × (List DLease)), g154 a0 a1 a2 a3 is4 = some r → C 154 ⟨[.own 2097152 0 4 (a0.map eDLease), iV a1, iV a2, iV a3, .clo f4 k4], []⟩ ⟨iV r.1, [], [(0, 4, r.2.map eDLease)]⟩
theorem F154 {C : CRel}  (a0 : List DLease) (a1 : Int) (a2 : Int) (a3 : Int) (f4 : Nat) (k4 : List V) (is4 : DLease → DLease → Option Int) (hs4 : Shut k4) (hf4 : ∀ (x0 : DLease) (x1 : DLease) r, is4 x0 x1 = some r → C f4 ⟨.agg (eDLease x0) :: .agg (eDLease x1) :: k4, []⟩ ⟨iV r, [], []⟩) (r : Int × (List DLease)) (h0 : g154 a0 a1 a2 a3 is4 = some r) : FnOK C c154 ⟨[.own 2097152 0 4 (a0.map eDLease), iV a1, iV a2, iV a3, .clo f4 k4], []⟩ ⟨iV r.1, [], [(0, 4, r.2.map eDLease)]⟩ := by
 refine fn_ (nl rfl) (seq_ (reg_ (st (mvc_ tv (oe_ (wk_ ⟨[(0, .own 2097152 0 4 (a0.map eDLease)), (1, iV a1), (2, iV a2), (3, iV a3), (4, .clo f4 k4)], [], []⟩ (fg ⟨rfl, rfl, rfl, rfl, rfl, tv⟩ tv) (seq_ ?_)))))))
 obtain ⟨y1, e2, h0⟩ := bnd h0
 obtain ⟨y3, e4, h0⟩ := bnd h0
 obtain ⟨y5, e6, h0⟩ := bnd h0
 obtain ⟨y7, e8, h0⟩ := bnd h0
 obtain ⟨y9, e10, h0⟩ := bnd h0
 obtain ⟨y11, e12, h0⟩ := bnd h0
 refine draw_ (dtake tv (mv_ rfl tv (⟨tv, (dtake tv (mv_ rfl tv (⟨tv, (dtake tv (mv_ rfl tv (⟨tv, (dtake tv (mv_ rfl tv (⟨tv, (dtake tv (mv_ rfl tv (⟨tv, (dtake tv (mv_ rfl tv (⟨tv, (dtake tv (c_ (cidxO (e := eDLease) (y := y1) rfl rfl tv rfl rfl tv e2) (⟨tv, (dtakeO (c_ (v := .agg (eDLease y3)) (cloadO (e := eDLease) (y := y3) (v := .agg (eDLease y3)) rfl rfl tv rfl rfl e4 rfl (nl rfl) rfl) (⟨⟨(again1 (cloadO (e := eDLease) (y := y3) (v := .agg (eDLease y3)) rfl rfl tv rfl rfl e4 rfl (nl rfl) rfl) rfl), tv⟩, (dtake tv (mv_ rfl tv (⟨⟨(again1 (cloadO (e := eDLease) (y := y3) (v := .agg (eDLease y3)) rfl rfl tv rfl rfl e4 rfl (nl rfl) rfl) rfl), tv⟩, (dtake tv (mv_ rfl tv (⟨⟨(again1 (cloadO (e := eDLease) (y := y3) (v := .agg (eDLease y3)) rfl rfl tv rfl rfl e4 rfl (nl rfl) rfl) rfl), tv⟩, (dtake tv (c_ (cidxO (e := eDLease) (y := y5) rfl rfl tv rfl rfl tv e6) (⟨⟨(again1 (cloadO (e := eDLease) (y := y3) (v := .agg (eDLease y3)) rfl rfl tv rfl rfl e4 rfl (nl rfl) rfl) rfl), tv⟩, (dtakeO (c_ (v := .agg (eDLease y7)) (cloadO (e := eDLease) (y := y7) (v := .agg (eDLease y7)) rfl rfl tv rfl rfl e8 rfl (nl rfl) rfl) (⟨⟨(again1 (cloadO (e := eDLease) (y := y7) (v := .agg (eDLease y7)) rfl rfl tv rfl rfl e8 rfl (nl rfl) rfl) rfl), (again1 (cloadO (e := eDLease) (y := y3) (v := .agg (eDLease y3)) rfl rfl tv rfl rfl e4 rfl (nl rfl) rfl) rfl), tv⟩, (dtake tv (c_ (cidxO (e := eDLease) (y := y5) rfl rfl tv rfl rfl tv e6) (⟨⟨(again1 (cloadO (e := eDLease) (y := y7) (v := .agg (eDLease y7)) rfl rfl tv rfl rfl e8 rfl (nl rfl) rfl) rfl), (again1 (cloadO (e := eDLease) (y := y3) (v := .agg (eDLease y3)) rfl rfl tv rfl rfl e4 rfl (nl rfl) rfl) rfl), tv⟩, (dalt (sto_ (y' := y3) rfl rfl tv rfl rfl rfl rfl e8 (nl rfl) rfl rfl rfl rfl (dkw ⟨[(0, .own 2097152 0 4 ((a0.set a1.toNat y3).map eDLease)), (1, iV a1), (2, iV a2), (3, iV a3), (4, .clo f4 k4), (15, .own 2097152 0 4 ((a0.set a1.toNat y3).map eDLease)), (16, iV a3), (24, .agg (eDLease y7))], [], []⟩ (fg ⟨(congrArg (fun z => some ((.own 2097152 0 4 z : V))) overlay_map), rfl, rfl, rfl, rfl, (congrArg (fun z => some ((.own 2097152 0 4 z : V))) overlay_map), rfl, rfl, tv⟩ tv) ⟨[], ⟨⟨.inl tv, (again1 (cmv (v := iV a3) rfl tv) rfl)⟩, ⟨.inl tv, (again1 (cmv (v := .own 2097152 0 4 ((a0.set a1.toNat y3).map eDLease)) rfl tv) rfl)⟩, tv⟩, tv, (dtake tv (c_ (cidxO (e := eDLease) (y := y9) rfl rfl tv rfl rfl tv e10) (⟨tv, ?_⟩)))⟩)) dstop)⟩)))⟩)))⟩)))⟩)))⟩)))⟩)))⟩)))⟩)))⟩)))⟩)))⟩)))⟩)))⟩)))
 refine dalt (sto_ (y' := y7) rfl rfl tv rfl rfl rfl rfl e12 (nl rfl) rfl rfl rfl rfl (dk0 ⟨[], tv, tv, (dfin (wk_ ⟨[(0, .own 2097152 0 4 (((a0.set a1.toNat y3).set a3.toNat y7).map eDLease)), (1, iV a1), (2, iV a2), (4, .clo f4 k4)], [], []⟩ (fg ⟨(congrArg (fun z => some ((.own 2097152 0 4 z : V))) overlay_map), rfl, rfl, rfl, tv⟩ tv) (seq_ (reg_ (st (mv_ rfl tv (st (c_ (cp_ t3 rfl tv) (st (mv_ rfl tv (st (c_ (cp_ t3 rfl tv) (st (mv_ rfl tv (st (mv_ rfl tv (oe_ (wk_ ⟨[(0, .own 2097152 0 4 (((a0.set a1.toNat y3).set a3.toNat y7).map eDLease)), (1, iV a1), (4, .clo f4 k4), (11, iV (IntKind.i64.wrap (a1 + 1))), (12, iV (IntKind.i64.wrap (a2 - 1)))], [], []⟩ (fg ⟨rfl, rfl, rfl, rfl, rfl, tv⟩ tv) (seq_ (block_ ?_))))))))))))))))))))⟩)) dstop
 obtain ⟨r244, e245, h0⟩ := bnd h0
 refine loop_ (R := (fun S => ∃ p153 : List DLease, ∃ p154 : Int, (p153, p154) = r244 ∧ S = ⟨[(0, .own 2097152 0 4 (p153.map eDLease)), (11, iV p154)], [], []⟩)) (g154_l0 a1 is4) (fun s S => match s with | (p84, p85, p86) => S = ⟨[(0, .own 2097152 0 4 (p84.map eDLease)), (1, iV a1), (4, .clo f4 k4), (11, iV p85), (12, iV p86)], [], []⟩) e245 ⟨[(0, .own 2097152 0 4 (((a0.set a1.toNat y3).set a3.toNat y7).map eDLease)), (1, iV a1), (4, .clo f4 k4), (11, iV (IntKind.i64.wrap (a1 + 1))), (12, iV (IntKind.i64.wrap (a2 - 1)))], [], []⟩ (fg ⟨rfl, rfl, rfl, rfl, rfl, tv⟩ tv) rfl 0 (fun _ => rfl) ?_ ?_
 ·rintro S _ hfg ⟨p153, p154, rfl, rfl⟩
  refine wk_ ⟨[(0, .own 2097152 0 4 (p153.map eDLease)), (11, iV p154)], [], []⟩ (fglk hfg (by kernel_rfl)) (seq_ (reg_ (st (mv_ rfl tv (st (mv_ rfl tv (oe_ (wk_ ⟨[(0, .own 2097152 0 4 (p153.map eDLease)), (10, iV p154)], [], []⟩ (fgk (by kernel_rfl)) ?_))))))))
  obtain rfl := Option.some.inj h0
  exact rt_ (ret_ rfl rfl rfl rfl rfl ⟨⟨rfl, mlen (fun _ => rfl)⟩, tv⟩)
 ·rintro ⟨p84, p85, p86⟩ o1 _ K1 rfl h1 hx1 hK1 hE1 hR1
  refine block_ (seq_ (block_ ?_))
  obtain ⟨r191, e192, h1⟩ := bnd h1
  refine loop_ (R := (fun S => ∃ p179 : Int, p179 = r191 ∧ S = ⟨[(0, .own 2097152 0 4 (p84.map eDLease)), (1, iV a1), (4, .clo f4 k4), (11, iV p179), (12, iV p86)], [], []⟩)) (g154_l1 a1 is4 p84 p86) (fun s S => match s with | p166 => S = ⟨[(0, .own 2097152 0 4 (p84.map eDLease)), (1, iV a1), (4, .clo f4 k4), (11, iV p166), (12, iV p86)], [], []⟩) e192 ⟨[(0, .own 2097152 0 4 (p84.map eDLease)), (1, iV a1), (4, .clo f4 k4), (11, iV p85), (12, iV p86)], [], []⟩ (fg ⟨rfl, rfl, rfl, rfl, rfl, tv⟩ tv) rfl 2 (fun _ => rfl) ?_ ?_
  ·rintro S _ hfg ⟨p179, rfl, rfl⟩
   refine wk_ ⟨[(0, .own 2097152 0 4 (p84.map eDLease)), (1, iV a1), (4, .clo f4 k4), (11, iV p179), (12, iV p86)], [], []⟩ (fgl hfg ⟨rfl, rfl, rfl, rfl, rfl, tv⟩ tv) (seq_ (block_ ?_))
   obtain ⟨r229, e230, h1⟩ := bnd h1
   refine loop_ (R := (fun S => ∃ p217 : Int, p217 = r229 ∧ S = ⟨[(0, .own 2097152 0 4 (p84.map eDLease)), (1, iV a1), (4, .clo f4 k4), (11, iV p179), (12, iV p217)], [], []⟩)) (g154_l2 a1 is4 p84 p179) (fun s S => match s with | p204 => S = ⟨[(0, .own 2097152 0 4 (p84.map eDLease)), (1, iV a1), (4, .clo f4 k4), (11, iV p179), (12, iV p204)], [], []⟩) e230 ⟨[(0, .own 2097152 0 4 (p84.map eDLease)), (1, iV a1), (4, .clo f4 k4), (11, iV p179), (12, iV p86)], [], []⟩ (fg ⟨rfl, rfl, rfl, rfl, rfl, tv⟩ tv) rfl 4 (fun _ => rfl) ?_ ?_
   ·rintro S _ hfg ⟨p217, rfl, rfl⟩
    refine wk_ ⟨[(0, .own 2097152 0 4 (p84.map eDLease)), (1, iV a1), (4, .clo f4 k4), (11, iV p179), (12, iV p217)], [], []⟩ (fgl hfg ⟨rfl, rfl, rfl, rfl, rfl, tv⟩ tv) (seq_ (seq_ (reg_ (st (mv_ rfl tv (st (mv_ rfl tv (st (c_ (cp_ t3 rfl tv) (oe_ (wk_ ⟨[(0, .own 2097152 0 4 (p84.map eDLease)), (1, iV a1), (4, .clo f4 k4), (11, iV p179), (12, iV p217), (70, .bool (decide (p179 > p217)))], [], []⟩ (fg ⟨rfl, rfl, rfl, rfl, rfl, rfl, tv⟩ tv) (ite_ (cb := (decide (p179 > p217))) rfl (fun c231 => ?_) (fun c231 => ?_)))))))))))))
    ·replace h1 := ip c231 h1
     obtain rfl := Option.some.inj h1
     obtain rfl := hx1 _ rfl
     refine exQ rfl ?_
     exact hE1 _ ⟨[(0, .own 2097152 0 4 (p84.map eDLease)), (11, iV p179)], [], []⟩ (fgk (by kernel_rfl)) ⟨_, _, rfl, rfl⟩
    ·replace h1 := inb c231 h1
     refine sk_ (wk_ ⟨[(0, .own 2097152 0 4 (p84.map eDLease)), (1, iV a1), (4, .clo f4 k4), (11, iV p179), (12, iV p217)], [], []⟩ (fg ⟨rfl, rfl, rfl, rfl, rfl, tv⟩ tv) (seq_ ?_))
     obtain ⟨y232, e233, h1⟩ := bnd h1
     obtain ⟨y234, e235, h1⟩ := bnd h1
     obtain ⟨y236, e237, h1⟩ := bnd h1
     obtain ⟨y238, e239, h1⟩ := bnd h1
     obtain ⟨y240, e241, h1⟩ := bnd h1
     obtain ⟨y242, e243, h1⟩ := bnd h1
     refine draw_ (dtake tv (mv_ rfl tv (⟨tv, (dtake tv (mv_ rfl tv (⟨tv, (dtake tv (mv_ rfl tv (⟨tv, (dtake tv (mv_ rfl tv (⟨tv, (dtake tv (mv_ rfl tv (⟨tv, (dtake tv (mv_ rfl tv (⟨tv, (dtake tv (c_ (cidxO (e := eDLease) (y := y232) rfl rfl tv rfl rfl tv e233) (⟨tv, (dtakeO (c_ (v := .agg (eDLease y234)) (cloadO (e := eDLease) (y := y234) (v := .agg (eDLease y234)) rfl rfl tv rfl rfl e235 rfl (nl rfl) rfl) (⟨⟨(again1 (cloadO (e := eDLease) (y := y234) (v := .agg (eDLease y234)) rfl rfl tv rfl rfl e235 rfl (nl rfl) rfl) rfl), tv⟩, (dtake tv (mv_ rfl tv (⟨⟨(again1 (cloadO (e := eDLease) (y := y234) (v := .agg (eDLease y234)) rfl rfl tv rfl rfl e235 rfl (nl rfl) rfl) rfl), tv⟩, (dtake tv (mv_ rfl tv (⟨⟨(again1 (cloadO (e := eDLease) (y := y234) (v := .agg (eDLease y234)) rfl rfl tv rfl rfl e235 rfl (nl rfl) rfl) rfl), tv⟩, (dtake tv (c_ (cidxO (e := eDLease) (y := y236) rfl rfl tv rfl rfl tv e237) (⟨⟨(again1 (cloadO (e := eDLease) (y := y234) (v := .agg (eDLease y234)) rfl rfl tv rfl rfl e235 rfl (nl rfl) rfl) rfl), tv⟩, (dtakeO (c_ (v := .agg (eDLease y238)) (cloadO (e := eDLease) (y := y238) (v := .agg (eDLease y238)) rfl rfl tv rfl rfl e239 rfl (nl rfl) rfl) (⟨⟨(again1 (cloadO (e := eDLease) (y := y238) (v := .agg (eDLease y238)) rfl rfl tv rfl rfl e239 rfl (nl rfl) rfl) rfl), (again1 (cloadO (e := eDLease) (y := y234) (v := .agg (eDLease y234)) rfl rfl tv rfl rfl e235 rfl (nl rfl) rfl) rfl), tv⟩, (dtake tv (c_ (cidxO (e := eDLease) (y := y236) rfl rfl tv rfl rfl tv e237) (⟨⟨(again1 (cloadO (e := eDLease) (y := y238) (v := .agg (eDLease y238)) rfl rfl tv rfl rfl e239 rfl (nl rfl) rfl) rfl), (again1 (cloadO (e := eDLease) (y := y234) (v := .agg (eDLease y234)) rfl rfl tv rfl rfl e235 rfl (nl rfl) rfl) rfl), tv⟩, (dalt (sto_ (y' := y234) rfl rfl tv rfl rfl rfl rfl e239 (nl rfl) rfl rfl rfl rfl (dkw ⟨[(0, .own 2097152 0 4 ((p84.set p179.toNat y234).map eDLease)), (1, iV a1), (4, .clo f4 k4), (11, iV p179), (12, iV p217), (73, .own 2097152 0 4 ((p84.set p179.toNat y234).map eDLease)), (74, iV p217), (82, .agg (eDLease y238))], [], []⟩ (fg ⟨(congrArg (fun z => some ((.own 2097152 0 4 z : V))) overlay_map), rfl, rfl, rfl, rfl, (congrArg (fun z => some ((.own 2097152 0 4 z : V))) overlay_map), rfl, rfl, tv⟩ tv) ⟨[], ⟨⟨.inl tv, (again1 (cmv (v := iV p217) rfl tv) rfl)⟩, ⟨.inl tv, (again1 (cmv (v := .own 2097152 0 4 ((p84.set p179.toNat y234).map eDLease)) rfl tv) rfl)⟩, tv⟩, tv, (dtake tv (c_ (cidxO (e := eDLease) (y := y240) rfl rfl tv rfl rfl tv e241) (⟨tv, ?_⟩)))⟩)) dstop)⟩)))⟩)))⟩)))⟩)))⟩)))⟩)))⟩)))⟩)))⟩)))⟩)))⟩)))⟩)))⟩)))
     refine dalt (sto_ (y' := y238) rfl rfl tv rfl rfl rfl rfl e243 (nl rfl) rfl rfl rfl rfl (dk0 ⟨[], tv, tv, (dfin (wk_ ⟨[(0, .own 2097152 0 4 (((p84.set p179.toNat y234).set p217.toNat y238).map eDLease)), (1, iV a1), (4, .clo f4 k4), (11, iV p179), (12, iV p217)], [], []⟩ (fg ⟨(congrArg (fun z => some ((.own 2097152 0 4 z : V))) overlay_map), rfl, rfl, rfl, rfl, tv⟩ tv) (seq_ (reg_ (st (mv_ rfl tv (st (c_ (cp_ t3 rfl tv) (st (mv_ rfl tv (oe_ (wk_ ⟨[(0, .own 2097152 0 4 (((p84.set p179.toNat y234).set p217.toNat y238).map eDLease)), (1, iV a1), (4, .clo f4 k4), (11, iV (IntKind.i64.wrap (p179 + 1))), (12, iV p217)], [], []⟩ (fg ⟨rfl, rfl, rfl, rfl, rfl, tv⟩ tv) (reg_ (st (mv_ rfl tv (st (c_ (cp_ t3 rfl tv) (st (mv_ rfl tv (oe_ (bn_ ?_)))))))))))))))))))))⟩)) dstop
     obtain rfl := Option.some.inj h1
     exact hK1 _ rfl _ ⟨[(0, .own 2097152 0 4 (((p84.set p179.toNat y234).set p217.toNat y238).map eDLease)), (1, iV a1), (4, .clo f4 k4), (11, iV (IntKind.i64.wrap (p179 + 1))), (12, iV (IntKind.i64.wrap (p217 - 1)))], [], []⟩ (fg ⟨rfl, rfl, rfl, rfl, rfl, tv⟩ tv) rfl
   ·rintro p204 o2 _ K2 rfl h2 hx2 hK2 hE2 hR2
    refine seq_ (seq_ ?_)
    obtain ⟨y218, e219, h2⟩ := bnd h2
    obtain ⟨y220, e221, h2⟩ := bnd h2
    obtain ⟨y222, e223, h2⟩ := bnd h2
    obtain ⟨y224, e225, h2⟩ := bnd h2
    obtain ⟨r226, e227, h2⟩ := bnd h2
    refine draw_ (dtake tv (mv_ rfl tv (⟨tv, (dtake tv (mv_ rfl tv (⟨tv, (dtake tv (c_ (cp_ t3 rfl tv) (⟨tv, (dtake tv (mv_ rfl tv (⟨tv, (dtake tv (pg_ (u := .clo f4 k4) rfl (fun hg => (cmv (v := .clo f4 k4) rfl tv)) (⟨tv, (dtake tv (pg_ (u := .own 2097152 0 4 (p84.map eDLease)) rfl (fun hg => (cmv (v := .own 2097152 0 4 (p84.map eDLease)) rfl tv)) (⟨tv, (dtake tv (pg_ (u := iV a1) rfl (fun hg => (cmv (v := iV a1) rfl tv)) (⟨tv, (dtake tv (pg_ (u := .optr 2097152 4 (0 + a1.toNat) 0) rfl (fun hg => (cidxO (e := eDLease) (y := y218) rfl rfl (fun _ => hg) rfl rfl (fun _ => hg) (ip hg e219))) (⟨tv, (dtakeO (pg_ (u := .agg (eDLease y220)) rfl (fun hg => (cloadO (e := eDLease) (y := y220) (v := .agg (eDLease y220)) rfl rfl (fun _ => hg) rfl rfl (ip hg e221) rfl (nl rfl) rfl)) (⟨⟨(againg (v := .agg (eDLease y220)) rfl (fun hg => (cloadO (e := eDLease) (y := y220) (v := .agg (eDLease y220)) rfl rfl (fun _ => hg) rfl rfl (ip hg e221) rfl (nl rfl) rfl)) rfl), tv⟩, (dtake tv (pg_ (u := .own 2097152 0 4 (p84.map eDLease)) rfl (fun hg => (cmv (v := .own 2097152 0 4 (p84.map eDLease)) rfl tv)) (⟨⟨(againg (v := .agg (eDLease y220)) rfl (fun hg => (cloadO (e := eDLease) (y := y220) (v := .agg (eDLease y220)) rfl rfl (fun _ => hg) rfl rfl (ip hg e221) rfl (nl rfl) rfl)) rfl), tv⟩, (dtake tv (pg_ (u := iV p204) rfl (fun hg => (cmv (v := iV p204) rfl tv)) (⟨⟨(againg (v := .agg (eDLease y220)) rfl (fun hg => (cloadO (e := eDLease) (y := y220) (v := .agg (eDLease y220)) rfl rfl (fun _ => hg) rfl rfl (ip hg e221) rfl (nl rfl) rfl)) rfl), tv⟩, (dtake tv (pg_ (u := .optr 2097152 4 (0 + p204.toNat) 0) rfl (fun hg => (cidxO (e := eDLease) (y := y222) rfl rfl (fun _ => hg) rfl rfl (fun _ => hg) (ip hg e223))) (⟨⟨(againg (v := .agg (eDLease y220)) rfl (fun hg => (cloadO (e := eDLease) (y := y220) (v := .agg (eDLease y220)) rfl rfl (fun _ => hg) rfl rfl (ip hg e221) rfl (nl rfl) rfl)) rfl), tv⟩, (dtakeO (pg_ (u := .agg (eDLease y224)) rfl (fun hg => (cloadO (e := eDLease) (y := y224) (v := .agg (eDLease y224)) rfl rfl (fun _ => hg) rfl rfl (ip hg e225) rfl (nl rfl) rfl)) (⟨⟨(againg (v := .agg (eDLease y224)) rfl (fun hg => (cloadO (e := eDLease) (y := y224) (v := .agg (eDLease y224)) rfl rfl (fun _ => hg) rfl rfl (ip hg e225) rfl (nl rfl) rfl)) rfl), (againg (v := .agg (eDLease y220)) rfl (fun hg => (cloadO (e := eDLease) (y := y220) (v := .agg (eDLease y220)) rfl rfl (fun _ => hg) rfl rfl (ip hg e221) rfl (nl rfl) rfl)) rfl), tv⟩, (dalt (callvg_ (r := iV r226) rfl rfl rfl (fun hg => hg) false (fun hg => hf4 _ _ r226 (ip hg e227)) ⟨(fun hg => hg), (fun hg => hg), tv⟩ (fun _ => (and_ rfl (and_ rfl hs4.2.2.1))) (fun _ => (mapc1 rfl (mapc1 rfl (hs4.2.1 _ _ _ _ _)))) (fun _ => rfl) (fun h => nomatch h) (dkw ⟨[(0, .own 2097152 0 4 (p84.map eDLease)), (1, iV a1), (4, .clo f4 k4), (11, iV p179), (12, iV p204), (53, .bool (decide (p179 ≤ p204))), (63, .may ((decide (p179 ≤ p204)) == true) (iV r226))], [], []⟩ (fg ⟨rfl, rfl, rfl, rfl, rfl, rfl, rfl, tv⟩ tv) ⟨[], tv, tv, (dtake tv (pg_ (u := .bool (decide (r226 < 0))) rfl (fun hg => (cp_ ⟨(fun _ => hg), tv, tv⟩ rfl tv)) (⟨tv, ?_⟩)))⟩)) dstop)⟩)))⟩)))⟩)))⟩)))⟩)))⟩)))⟩)))⟩)))⟩)))⟩)))⟩)))⟩)))⟩)))
    refine dtake tv (pick_ rfl rfl rfl (fun h => eqt h) tv rfl (⟨tv, (dfin (wk_ ⟨[(0, .own 2097152 0 4 (p84.map eDLease)), (1, iV a1), (4, .clo f4 k4), (11, iV p179), (12, iV p204), (65, .bool (bif (decide (p179 ≤ p204)) then (decide (r226 < 0)) else false))], [], []⟩ (fg ⟨rfl, rfl, rfl, rfl, rfl, rfl, tv⟩ tv) (ite_ (cb := (bif (decide (p179 ≤ p204)) then (decide (r226 < 0)) else false)) rfl (fun c228 => ?_) (fun c228 => ?_))))⟩))
    ·replace h2 := ip c228 h2
     refine sk_ (wk_ ⟨[(0, .own 2097152 0 4 (p84.map eDLease)), (1, iV a1), (4, .clo f4 k4), (11, iV p179), (12, iV p204)], [], []⟩ (fg ⟨rfl, rfl, rfl, rfl, rfl, tv⟩ tv) (block_ (reg_ (st (mv_ rfl tv (st (c_ (cp_ t3 rfl tv) (st (mv_ rfl tv (oe_ (bn_ ?_)))))))))))
     obtain rfl := Option.some.inj h2
     exact hK2 _ rfl _ ⟨[(0, .own 2097152 0 4 (p84.map eDLease)), (1, iV a1), (4, .clo f4 k4), (11, iV p179), (12, iV (IntKind.i64.wrap (p204 - 1)))], [], []⟩ (fg ⟨rfl, rfl, rfl, rfl, rfl, tv⟩ tv) rfl
    ·replace h2 := inb c228 h2
     obtain rfl := Option.some.inj h2
     obtain rfl := hx2 _ rfl
     refine exQ rfl ?_
     exact hE2 _ ⟨[(0, .own 2097152 0 4 (p84.map eDLease)), (1, iV a1), (4, .clo f4 k4), (11, iV p179), (12, iV p204)], [], []⟩ (fg ⟨rfl, rfl, rfl, rfl, rfl, tv⟩ tv) ⟨_, rfl, rfl⟩
  ·rintro p166 o2 _ K2 rfl h2 hx2 hK2 hE2 hR2
   refine seq_ (seq_ ?_)
   obtain ⟨y180, e181, h2⟩ := bnd h2
   obtain ⟨y182, e183, h2⟩ := bnd h2
   obtain ⟨y184, e185, h2⟩ := bnd h2
   obtain ⟨y186, e187, h2⟩ := bnd h2
   obtain ⟨r188, e189, h2⟩ := bnd h2
   refine draw_ (dtake tv (mv_ rfl tv (⟨tv, (dtake tv (mv_ rfl tv (⟨tv, (dtake tv (c_ (cp_ t3 rfl tv) (⟨tv, (dtake tv (mv_ rfl tv (⟨tv, (dtake tv (pg_ (u := .clo f4 k4) rfl (fun hg => (cmv (v := .clo f4 k4) rfl tv)) (⟨tv, (dtake tv (pg_ (u := .own 2097152 0 4 (p84.map eDLease)) rfl (fun hg => (cmv (v := .own 2097152 0 4 (p84.map eDLease)) rfl tv)) (⟨tv, (dtake tv (pg_ (u := iV a1) rfl (fun hg => (cmv (v := iV a1) rfl tv)) (⟨tv, (dtake tv (pg_ (u := .optr 2097152 4 (0 + a1.toNat) 0) rfl (fun hg => (cidxO (e := eDLease) (y := y180) rfl rfl (fun _ => hg) rfl rfl (fun _ => hg) (ip hg e181))) (⟨tv, (dtakeO (pg_ (u := .agg (eDLease y182)) rfl (fun hg => (cloadO (e := eDLease) (y := y182) (v := .agg (eDLease y182)) rfl rfl (fun _ => hg) rfl rfl (ip hg e183) rfl (nl rfl) rfl)) (⟨⟨(againg (v := .agg (eDLease y182)) rfl (fun hg => (cloadO (e := eDLease) (y := y182) (v := .agg (eDLease y182)) rfl rfl (fun _ => hg) rfl rfl (ip hg e183) rfl (nl rfl) rfl)) rfl), tv⟩, (dtake tv (pg_ (u := .own 2097152 0 4 (p84.map eDLease)) rfl (fun hg => (cmv (v := .own 2097152 0 4 (p84.map eDLease)) rfl tv)) (⟨⟨(againg (v := .agg (eDLease y182)) rfl (fun hg => (cloadO (e := eDLease) (y := y182) (v := .agg (eDLease y182)) rfl rfl (fun _ => hg) rfl rfl (ip hg e183) rfl (nl rfl) rfl)) rfl), tv⟩, (dtake tv (pg_ (u := iV p166) rfl (fun hg => (cmv (v := iV p166) rfl tv)) (⟨⟨(againg (v := .agg (eDLease y182)) rfl (fun hg => (cloadO (e := eDLease) (y := y182) (v := .agg (eDLease y182)) rfl rfl (fun _ => hg) rfl rfl (ip hg e183) rfl (nl rfl) rfl)) rfl), tv⟩, (dtake tv (pg_ (u := .optr 2097152 4 (0 + p166.toNat) 0) rfl (fun hg => (cidxO (e := eDLease) (y := y184) rfl rfl (fun _ => hg) rfl rfl (fun _ => hg) (ip hg e185))) (⟨⟨(againg (v := .agg (eDLease y182)) rfl (fun hg => (cloadO (e := eDLease) (y := y182) (v := .agg (eDLease y182)) rfl rfl (fun _ => hg) rfl rfl (ip hg e183) rfl (nl rfl) rfl)) rfl), tv⟩, (dtakeO (pg_ (u := .agg (eDLease y186)) rfl (fun hg => (cloadO (e := eDLease) (y := y186) (v := .agg (eDLease y186)) rfl rfl (fun _ => hg) rfl rfl (ip hg e187) rfl (nl rfl) rfl)) (⟨⟨(againg (v := .agg (eDLease y186)) rfl (fun hg => (cloadO (e := eDLease) (y := y186) (v := .agg (eDLease y186)) rfl rfl (fun _ => hg) rfl rfl (ip hg e187) rfl (nl rfl) rfl)) rfl), (againg (v := .agg (eDLease y182)) rfl (fun hg => (cloadO (e := eDLease) (y := y182) (v := .agg (eDLease y182)) rfl rfl (fun _ => hg) rfl rfl (ip hg e183) rfl (nl rfl) rfl)) rfl), tv⟩, (dalt (callvg_ (r := iV r188) rfl rfl rfl (fun hg => hg) false (fun hg => hf4 _ _ r188 (ip hg e189)) ⟨(fun hg => hg), (fun hg => hg), tv⟩ (fun _ => (and_ rfl (and_ rfl hs4.2.2.1))) (fun _ => (mapc1 rfl (mapc1 rfl (hs4.2.1 _ _ _ _ _)))) (fun _ => rfl) (fun h => nomatch h) (dkw ⟨[(0, .own 2097152 0 4 (p84.map eDLease)), (1, iV a1), (4, .clo f4 k4), (11, iV p166), (12, iV p86), (34, .bool (decide (p166 ≤ p86))), (44, .may ((decide (p166 ≤ p86)) == true) (iV r188))], [], []⟩ (fg ⟨rfl, rfl, rfl, rfl, rfl, rfl, rfl, tv⟩ tv) ⟨[], tv, tv, (dtake tv (pg_ (u := .bool (decide (r188 < 0))) rfl (fun hg => (cp_ ⟨(fun _ => hg), tv, tv⟩ rfl tv)) (⟨tv, ?_⟩)))⟩)) dstop)⟩)))⟩)))⟩)))⟩)))⟩)))⟩)))⟩)))⟩)))⟩)))⟩)))⟩)))⟩)))⟩)))
   refine dtake tv (pg_ (u := .bool (!(decide (r188 < 0)))) rfl (fun hg => (cp_ ⟨(fun _ => hg), tv⟩ rfl tv)) (⟨tv, (dtake tv (pick_ rfl rfl rfl (fun h => eqt h) tv rfl (⟨tv, (dfin (wk_ ⟨[(0, .own 2097152 0 4 (p84.map eDLease)), (1, iV a1), (4, .clo f4 k4), (11, iV p166), (12, iV p86), (47, .bool (bif (decide (p166 ≤ p86)) then (!(decide (r188 < 0))) else false))], [], []⟩ (fg ⟨rfl, rfl, rfl, rfl, rfl, rfl, tv⟩ tv) (ite_ (cb := (bif (decide (p166 ≤ p86)) then (!(decide (r188 < 0))) else false)) rfl (fun c190 => ?_) (fun c190 => ?_))))⟩)))⟩))
   ·replace h2 := ip c190 h2
    refine sk_ (wk_ ⟨[(0, .own 2097152 0 4 (p84.map eDLease)), (1, iV a1), (4, .clo f4 k4), (11, iV p166), (12, iV p86)], [], []⟩ (fg ⟨rfl, rfl, rfl, rfl, rfl, tv⟩ tv) (block_ (reg_ (st (mv_ rfl tv (st (c_ (cp_ t3 rfl tv) (st (mv_ rfl tv (oe_ (bn_ ?_)))))))))))
    obtain rfl := Option.some.inj h2
    exact hK2 _ rfl _ ⟨[(0, .own 2097152 0 4 (p84.map eDLease)), (1, iV a1), (4, .clo f4 k4), (11, iV (IntKind.i64.wrap (p166 + 1))), (12, iV p86)], [], []⟩ (fg ⟨rfl, rfl, rfl, rfl, rfl, tv⟩ tv) rfl
   ·replace h2 := inb c190 h2
    obtain rfl := Option.some.inj h2
    obtain rfl := hx2 _ rfl
    refine exQ rfl ?_
    exact hE2 _ ⟨[(0, .own 2097152 0 4 (p84.map eDLease)), (1, iV a1), (4, .clo f4 k4), (11, iV p166), (12, iV p86)], [], []⟩ (fg ⟨rfl, rfl, rfl, rfl, rfl, tv⟩ tv) ⟨_, rfl, rfl⟩

/- slices.partitionCmpFunc[loop.example/g00149/impl.Lease] -/
def c155_r0 : List Ins := [⟨some 10, .p (.mv (.c (iV 0))), none⟩,
⟨some 11, .p (.mv (.c (.bool false))), none⟩]
def c155_r1 : DP := (.take (iQ 14 (.mv (.t 0)))
(.take (iQ 15 (.mv (.t 1)))
(.take (iQ 16 (.mv (.t 0)))
(.take (iQ 17 (.mv (.t 3)))
(.take (iQ 18 (.mv (.t 0)))
(.take (iQ 19 (.mv (.t 3)))
(.take (iQ 20 (.idxA (.t 18) (.t 19) 4))
(.take (iQ 21 (.load (.t 20) 4 true))
(.take (iQ 22 (.mv (.t 0)))
(.take (iQ 23 (.mv (.t 1)))
(.take (iQ 24 (.idxA (.t 22) (.t 23) 4))
(.take (iQ 25 (.load (.t 24) 4 true))
(.take (iQ 26 (.idxA (.t 14) (.t 15) 4))
(.alt [(iQ 17 (.mv (.t 3))), (iQ 16 (.mv (.t 0)))] ⟨none, .store (.t 26) (.t 21) 4, none⟩
(.take (iQ 27 (.idxA (.t 16) (.t 17) 4))
(.alt [] ⟨none, .store (.t 27) (.t 25) 4, none⟩
.fin
.stop))
.stop))))))))))))))
def c155_r2 : List Ins := [(iQ 28 (.mv (.t 1))),
⟨some 29, .p (.bin .add (.t 28) (.c (iV 1))), none⟩,
(iQ 30 (.mv (.t 2))),
⟨some 31, .p (.bin .sub (.t 30) (.c (iV 1))), none⟩,
(iQ 12 (.mv (.t 29))),
(iQ 13 (.mv (.t 31)))]
def c155_r3 : DP := (.take (iQ 32 (.mv (.t 12)))
(.take (iQ 33 (.mv (.t 13)))
(.take (iQ 34 (.bin .leq (.t 32) (.t 33)))
(.take (iQ 35 (.mv (.t 34)))
(.take ⟨some 36, .p (.mv (.t 4)), some (35, true)⟩
(.take ⟨some 37, .p (.mv (.t 0)), some (35, true)⟩
(.take ⟨some 38, .p (.mv (.t 12)), some (35, true)⟩
(.take ⟨some 39, .p (.idxA (.t 37) (.t 38) 4), some (35, true)⟩
(.take ⟨some 40, .p (.load (.t 39) 4 true), some (35, true)⟩
(.take ⟨some 41, .p (.mv (.t 0)), some (35, true)⟩
(.take ⟨some 42, .p (.mv (.t 1)), some (35, true)⟩
(.take ⟨some 43, .p (.idxA (.t 41) (.t 42) 4), some (35, true)⟩
(.take ⟨some 44, .p (.load (.t 43) 4 true), some (35, true)⟩
(.alt [] ⟨some 45, .callv (.t 36) [(.t 40), (.t 44)], some (35, true)⟩
(.take ⟨some 46, .p (.bin .lss (.t 45) (.c (iV 0))), some (35, true)⟩
(.take ⟨some 47, .pick (.t 35) (.t 46) (.c (.bool false)), none⟩
.fin))
.stop))))))))))))))
def c155_r4 : List Ins := [(iQ 48 (.mv (.t 12))),
⟨some 49, .p (.bin .add (.t 48) (.c (iV 1))), none⟩,
(iQ 12 (.mv (.t 49)))]
def c155_l0 : IR := (.seq (.seq (.draw c155_r3) (.ite (.t 47) .skip (.exit 0))) (.block 1 (.reg c155_r4)))
def c155_r5 : DP := (.take (iQ 50 (.mv (.t 12)))
(.take (iQ 51 (.mv (.t 13)))
(.take (iQ 52 (.bin .leq (.t 50) (.t 51)))
(.take (iQ 53 (.mv (.t 52)))
(.take ⟨some 54, .p (.mv (.t 4)), some (53, true)⟩
(.take ⟨some 55, .p (.mv (.t 0)), some (53, true)⟩
(.take ⟨some 56, .p (.mv (.t 13)), some (53, true)⟩
(.take ⟨some 57, .p (.idxA (.t 55) (.t 56) 4), some (53, true)⟩
(.take ⟨some 58, .p (.load (.t 57) 4 true), some (53, true)⟩
(.take ⟨some 59, .p (.mv (.t 0)), some (53, true)⟩
(.take ⟨some 60, .p (.mv (.t 1)), some (53, true)⟩
(.take ⟨some 61, .p (.idxA (.t 59) (.t 60) 4), some (53, true)⟩
(.take ⟨some 62, .p (.load (.t 61) 4 true), some (53, true)⟩
(.alt [] ⟨some 63, .callv (.t 54) [(.t 58), (.t 62)], some (53, true)⟩
(.take ⟨some 64, .p (.bin .lss (.t 63) (.c (iV 0))), some (53, true)⟩
(.take ⟨some 65, .p (.un .not (.t 64)), some (53, true)⟩
(.take ⟨some 66, .pick (.t 53) (.t 65) (.c (.bool false)), none⟩
.fin)))
.stop))))))))))))))
def c155_r6 : List Ins := [(iQ 67 (.mv (.t 13))),
⟨some 68, .p (.bin .sub (.t 67) (.c (iV 1))), none⟩,
(iQ 13 (.mv (.t 68)))]
def c155_l1 : IR := (.seq (.seq (.draw c155_r5) (.ite (.t 66) .skip (.exit 2))) (.block 3 (.reg c155_r6)))
def c155_r7 : List Ins := [(iQ 69 (.mv (.t 12))),
(iQ 70 (.mv (.t 13))),
(iQ 71 (.bin .gtr (.t 69) (.t 70)))]
def c155_r8 : DP := (.take (iQ 72 (.mv (.t 0)))
(.take (iQ 73 (.mv (.t 13)))
(.take (iQ 74 (.mv (.t 0)))
(.take (iQ 75 (.mv (.t 1)))
(.take (iQ 76 (.mv (.t 0)))
(.take (iQ 77 (.mv (.t 1)))
(.take (iQ 78 (.idxA (.t 76) (.t 77) 4))
(.take (iQ 79 (.load (.t 78) 4 true))
(.take (iQ 80 (.mv (.t 0)))
(.take (iQ 81 (.mv (.t 13)))
(.take (iQ 82 (.idxA (.t 80) (.t 81) 4))
(.take (iQ 83 (.load (.t 82) 4 true))
(.take (iQ 84 (.idxA (.t 72) (.t 73) 4))
(.alt [(iQ 75 (.mv (.t 1))), (iQ 74 (.mv (.t 0)))] ⟨none, .store (.t 84) (.t 79) 4, none⟩
(.take (iQ 85 (.idxA (.t 74) (.t 75) 4))
(.alt [] ⟨none, .store (.t 85) (.t 83) 4, none⟩
.fin
.stop))
.stop))))))))))))))
def c155_r9 : List Ins := [(iQ 86 (.mv (.t 13))),
(iQ 10 (.mv (.t 86))),
⟨some 11, .p (.mv (.c (.bool true))), none⟩]
def c155_r10 : DP := (.take (iQ 87 (.mv (.t 0)))
(.take (iQ 88 (.mv (.t 12)))
(.take (iQ 89 (.mv (.t 0)))
(.take (iQ 90 (.mv (.t 13)))
(.take (iQ 91 (.mv (.t 0)))
(.take (iQ 92 (.mv (.t 13)))
(.take (iQ 93 (.idxA (.t 91) (.t 92) 4))
(.take (iQ 94 (.load (.t 93) 4 true))
(.take (iQ 95 (.mv (.t 0)))
(.take (iQ 96 (.mv (.t 12)))
(.take (iQ 97 (.idxA (.t 95) (.t 96) 4))
(.take (iQ 98 (.load (.t 97) 4 true))
(.take (iQ 99 (.idxA (.t 87) (.t 88) 4))
(.alt [(iQ 90 (.mv (.t 13))), (iQ 89 (.mv (.t 0)))] ⟨none, .store (.t 99) (.t 94) 4, none⟩
(.take (iQ 100 (.idxA (.t 89) (.t 90) 4))
(.alt [] ⟨none, .store (.t 100) (.t 98) 4, none⟩
.fin
.stop))
.stop))))))))))))))
def c155_r11 : List Ins := [(iQ 101 (.mv (.t 12))),
⟨some 102, .p (.bin .add (.t 101) (.c (iV 1))), none⟩,
(iQ 12 (.mv (.t 102)))]
def c155_r12 : List Ins := [(iQ 103 (.mv (.t 13))),
⟨some 104, .p (.bin .sub (.t 103) (.c (iV 1))), none⟩,
(iQ 13 (.mv (.t 104)))]
def c155_r13 : DP := (.take (iQ 105 (.mv (.t 12)))
(.take (iQ 106 (.mv (.t 13)))
(.take (iQ 107 (.bin .leq (.t 105) (.t 106)))
(.take (iQ 108 (.mv (.t 107)))
(.take ⟨some 109, .p (.mv (.t 4)), some (108, true)⟩
(.take ⟨some 110, .p (.mv (.t 0)), some (108, true)⟩
(.take ⟨some 111, .p (.mv (.t 12)), some (108, true)⟩
(.take ⟨some 112, .p (.idxA (.t 110) (.t 111) 4), some (108, true)⟩
(.take ⟨some 113, .p (.load (.t 112) 4 true), some (108, true)⟩
(.take ⟨some 114, .p (.mv (.t 0)), some (108, true)⟩
(.take ⟨some 115, .p (.mv (.t 1)), some (108, true)⟩
(.take ⟨some 116, .p (.idxA (.t 114) (.t 115) 4), some (108, true)⟩
(.take ⟨some 117, .p (.load (.t 116) 4 true), some (108, true)⟩
(.alt [] ⟨some 118, .callv (.t 109) [(.t 113), (.t 117)], some (108, true)⟩
(.take ⟨some 119, .p (.bin .lss (.t 118) (.c (iV 0))), some (108, true)⟩
(.take ⟨some 120, .pick (.t 108) (.t 119) (.c (.bool false)), none⟩
.fin))
.stop))))))))))))))
def c155_r14 : List Ins := [(iQ 121 (.mv (.t 12))),
⟨some 122, .p (.bin .add (.t 121) (.c (iV 1))), none⟩,
(iQ 12 (.mv (.t 122)))]
def c155_l2 : IR := (.seq (.seq (.draw c155_r13) (.ite (.t 120) .skip (.exit 6))) (.block 7 (.reg c155_r14)))
def c155_r15 : DP := (.take (iQ 123 (.mv (.t 12)))
(.take (iQ 124 (.mv (.t 13)))
(.take (iQ 125 (.bin .leq (.t 123) (.t 124)))
(.take (iQ 126 (.mv (.t 125)))
(.take ⟨some 127, .p (.mv (.t 4)), some (126, true)⟩
(.take ⟨some 128, .p (.mv (.t 0)), some (126, true)⟩
(.take ⟨some 129, .p (.mv (.t 13)), some (126, true)⟩
(.take ⟨some 130, .p (.idxA (.t 128) (.t 129) 4), some (126, true)⟩
(.take ⟨some 131, .p (.load (.t 130) 4 true), some (126, true)⟩
(.take ⟨some 132, .p (.mv (.t 0)), some (126, true)⟩
(.take ⟨some 133, .p (.mv (.t 1)), some (126, true)⟩
(.take ⟨some 134, .p (.idxA (.t 132) (.t 133) 4), some (126, true)⟩
(.take ⟨some 135, .p (.load (.t 134) 4 true), some (126, true)⟩
(.alt [] ⟨some 136, .callv (.t 127) [(.t 131), (.t 135)], some (126, true)⟩
(.take ⟨some 137, .p (.bin .lss (.t 136) (.c (iV 0))), some (126, true)⟩
(.take ⟨some 138, .p (.un .not (.t 137)), some (126, true)⟩
(.take ⟨some 139, .pick (.t 126) (.t 138) (.c (.bool false)), none⟩
.fin)))
.stop))))))))))))))
def c155_r16 : List Ins := [(iQ 140 (.mv (.t 13))),
⟨some 141, .p (.bin .sub (.t 140) (.c (iV 1))), none⟩,
(iQ 13 (.mv (.t 141)))]
def c155_l3 : IR := (.seq (.seq (.draw c155_r15) (.ite (.t 139) .skip (.exit 8))) (.block 9 (.reg c155_r16)))
def c155_r17 : List Ins := [(iQ 142 (.mv (.t 12))),
(iQ 143 (.mv (.t 13))),
(iQ 144 (.bin .gtr (.t 142) (.t 143)))]
def c155_r18 : DP := (.take (iQ 145 (.mv (.t 0)))
(.take (iQ 146 (.mv (.t 12)))
(.take (iQ 147 (.mv (.t 0)))
(.take (iQ 148 (.mv (.t 13)))
(.take (iQ 149 (.mv (.t 0)))
(.take (iQ 150 (.mv (.t 13)))
(.take (iQ 151 (.idxA (.t 149) (.t 150) 4))
(.take (iQ 152 (.load (.t 151) 4 true))
(.take (iQ 153 (.mv (.t 0)))
(.take (iQ 154 (.mv (.t 12)))
(.take (iQ 155 (.idxA (.t 153) (.t 154) 4))
(.take (iQ 156 (.load (.t 155) 4 true))
(.take (iQ 157 (.idxA (.t 145) (.t 146) 4))
(.alt [(iQ 148 (.mv (.t 13))), (iQ 147 (.mv (.t 0)))] ⟨none, .store (.t 157) (.t 152) 4, none⟩
(.take (iQ 158 (.idxA (.t 147) (.t 148) 4))
(.alt [] ⟨none, .store (.t 158) (.t 156) 4, none⟩
.fin
.stop))
.stop))))))))))))))
def c155_r19 : List Ins := [(iQ 159 (.mv (.t 12))),
⟨some 160, .p (.bin .add (.t 159) (.c (iV 1))), none⟩,
(iQ 12 (.mv (.t 160)))]
def c155_r20 : List Ins := [(iQ 161 (.mv (.t 13))),
⟨some 162, .p (.bin .sub (.t 161) (.c (iV 1))), none⟩,
(iQ 13 (.mv (.t 162)))]
def c155_l4 : IR := (.block 5 (.seq (.block 6 (.loop c155_l2)) (.seq (.block 8 (.loop c155_l3)) (.seq (.seq (.reg c155_r17) (.ite (.t 144) (.exit 4) .skip)) (.seq (.draw c155_r18) (.seq (.reg c155_r19) (.reg c155_r20)))))))
def c155_r21 : DP := (.take (iQ 163 (.mv (.t 0)))
(.take (iQ 164 (.mv (.t 13)))
(.take (iQ 165 (.mv (.t 0)))
(.take (iQ 166 (.mv (.t 1)))
(.take (iQ 167 (.mv (.t 0)))
(.take (iQ 168 (.mv (.t 1)))
(.take (iQ 169 (.idxA (.t 167) (.t 168) 4))
(.take (iQ 170 (.load (.t 169) 4 true))
(.take (iQ 171 (.mv (.t 0)))
(.take (iQ 172 (.mv (.t 13)))
(.take (iQ 173 (.idxA (.t 171) (.t 172) 4))
(.take (iQ 174 (.load (.t 173) 4 true))
(.take (iQ 175 (.idxA (.t 163) (.t 164) 4))
(.alt [(iQ 166 (.mv (.t 1))), (iQ 165 (.mv (.t 0)))] ⟨none, .store (.t 175) (.t 170) 4, none⟩
(.take (iQ 176 (.idxA (.t 165) (.t 166) 4))
(.alt [] ⟨none, .store (.t 176) (.t 174) 4, none⟩
.fin
.stop))
.stop))))))))))))))
def c155_r22 : List Ins := [(iQ 177 (.mv (.t 13))),
(iQ 10 (.mv (.t 177))),
⟨some 11, .p (.mv (.c (.bool false))), none⟩]
def c155 : XFn := { np := 5, nt := 178, res := [.t 10, .t 11], body := (.seq (.reg c155_r0) (.seq (.draw c155_r1) (.seq (.reg c155_r2) (.seq (.block 0 (.loop c155_l0)) (.seq (.block 2 (.loop c155_l1)) (.seq (.seq (.reg c155_r7) (.ite (.t 71) (.seq (.draw c155_r8) (.seq (.reg c155_r9) .ret)) .skip)) (.seq (.draw c155_r10) (.seq (.reg c155_r11) (.seq (.reg c155_r12) (.seq (.block 4 (.loop c155_l4)) (.seq (.draw c155_r21) (.seq (.reg c155_r22) .ret)))))))))))) }
def K155 (C : CRel) : Prop := ∀ (a0 : List DLease) (a1 : Int) (a2 : Int) (a3 : Int) (f4 : Nat) (k4 : List V) (is4 : DLease → DLease → Option Int) (hs4 : Shut k4) (hf4 : ∀ (x0 : DLease) (x1 : DLease) r, is4 x0 x1 = some r → C f4 ⟨.agg (eDLease x0) :: .agg (eDLease x1) :: k4, []⟩ ⟨iV r, [], []⟩) (r : Int × Bool × (List DLease)), g155 a0 a1 a2 a3 is4 = some r → C 155 ⟨[.own 2097152 0 4 (a0.map eDLease), iV a1, iV a2, iV a3, .clo f4 k4], []⟩ ⟨.tup [iV r.1, .bool r.2.1], [], [(0, 4, r.2.2.map eDLease)]⟩
theorem F155 {C : CRel}  (a0 : List DLease) (a1 : Int) (a2 : Int) (a3 : Int) (f4 : Nat) (k4 : List V) (is4 : DLease → DLease → Option Int) (hs4 : Shut k4) (hf4 : ∀ (x0 : DLease) (x1 : DLease) r, is4 x0 x1 = some r → C f4 ⟨.agg (eDLease x0) :: .agg (eDLease x1) :: k4, []⟩ ⟨iV r, [], []⟩) (r : Int × Bool × (List DLease)) (h0 : g155 a0 a1 a2 a3 is4 = some r) : FnOK C c155 ⟨[.own 2097152 0 4 (a0.map eDLease), iV a1, iV a2, iV a3, .clo f4 k4], []⟩ ⟨.tup [iV r.1, .bool r.2.1], [], [(0, 4, r.2.2.map eDLease)]⟩ := by
 refine fn_ (nl rfl) (seq_ (reg_ (st (mvc_ tv (st (mvc_ tv (oe_ (wk_ ⟨[(0, .own 2097152 0 4 (a0.map eDLease)), (1, iV a1), (2, iV a2), (3, iV a3), (4, .clo f4 k4)], [], []⟩ (fg ⟨rfl, rfl, rfl, rfl, rfl, tv⟩ tv) (seq_ ?_)))))))))
 obtain ⟨y1, e2, h0⟩ := bnd h0
 obtain ⟨y3, e4, h0⟩ := bnd h0
 obtain ⟨y5, e6, h0⟩ := bnd h0
 obtain ⟨y7, e8, h0⟩ := bnd h0
 obtain ⟨y9, e10, h0⟩ := bnd h0
 obtain ⟨y11, e12, h0⟩ := bnd h0
 refine draw_ (dtake tv (mv_ rfl tv (⟨tv, (dtake tv (mv_ rfl tv (⟨tv, (dtake tv (mv_ rfl tv (⟨tv, (dtake tv (mv_ rfl tv (⟨tv, (dtake tv (mv_ rfl tv (⟨tv, (dtake tv (mv_ rfl tv (⟨tv, (dtake tv (c_ (cidxO (e := eDLease) (y := y1) rfl rfl tv rfl rfl tv e2) (⟨tv, (dtakeO (c_ (v := .agg (eDLease y3)) (cloadO (e := eDLease) (y := y3) (v := .agg (eDLease y3)) rfl rfl tv rfl rfl e4 rfl (nl rfl) rfl) (⟨⟨(again1 (cloadO (e := eDLease) (y := y3) (v := .agg (eDLease y3)) rfl rfl tv rfl rfl e4 rfl (nl rfl) rfl) rfl), tv⟩, (dtake tv (mv_ rfl tv (⟨⟨(again1 (cloadO (e := eDLease) (y := y3) (v := .agg (eDLease y3)) rfl rfl tv rfl rfl e4 rfl (nl rfl) rfl) rfl), tv⟩, (dtake tv (mv_ rfl tv (⟨⟨(again1 (cloadO (e := eDLease) (y := y3) (v := .agg (eDLease y3)) rfl rfl tv rfl rfl e4 rfl (nl rfl) rfl) rfl), tv⟩, (dtake tv (c_ (cidxO (e := eDLease) (y := y5) rfl rfl tv rfl rfl tv e6) (⟨⟨(again1 (cloadO (e := eDLease) (y := y3) (v := .agg (eDLease y3)) rfl rfl tv rfl rfl e4 rfl (nl rfl) rfl) rfl), tv⟩, (dtakeO (c_ (v := .agg (eDLease y7)) (cloadO (e := eDLease) (y := y7) (v := .agg (eDLease y7)) rfl rfl tv rfl rfl e8 rfl (nl rfl) rfl) (⟨⟨(again1 (cloadO (e := eDLease) (y := y7) (v := .agg (eDLease y7)) rfl rfl tv rfl rfl e8 rfl (nl rfl) rfl) rfl), (again1 (cloadO (e := eDLease) (y := y3) (v := .agg (eDLease y3)) rfl rfl tv rfl rfl e4 rfl (nl rfl) rfl) rfl), tv⟩, (dtake tv (c_ (cidxO (e := eDLease) (y := y5) rfl rfl tv rfl rfl tv e6) (⟨⟨(again1 (cloadO (e := eDLease) (y := y7) (v := .agg (eDLease y7)) rfl rfl tv rfl rfl e8 rfl (nl rfl) rfl) rfl), (again1 (cloadO (e := eDLease) (y := y3) (v := .agg (eDLease y3)) rfl rfl tv rfl rfl e4 rfl (nl rfl) rfl) rfl), tv⟩, (dalt (sto_ (y' := y3) rfl rfl tv rfl rfl rfl rfl e8 (nl rfl) rfl rfl rfl rfl (dkw ⟨[(0, .own 2097152 0 4 ((a0.set a1.toNat y3).map eDLease)), (1, iV a1), (2, iV a2), (3, iV a3), (4, .clo f4 k4), (16, .own 2097152 0 4 ((a0.set a1.toNat y3).map eDLease)), (17, iV a3), (25, .agg (eDLease y7))], [], []⟩ (fg ⟨(congrArg (fun z => some ((.own 2097152 0 4 z : V))) overlay_map), rfl, rfl, rfl, rfl, (congrArg (fun z => some ((.own 2097152 0 4 z : V))) overlay_map), rfl, rfl, tv⟩ tv) ⟨[], ⟨⟨.inl tv, (again1 (cmv (v := iV a3) rfl tv) rfl)⟩, ⟨.inl tv, (again1 (cmv (v := .own 2097152 0 4 ((a0.set a1.toNat y3).map eDLease)) rfl tv) rfl)⟩, tv⟩, tv, (dtake tv (c_ (cidxO (e := eDLease) (y := y9) rfl rfl tv rfl rfl tv e10) (⟨tv, ?_⟩)))⟩)) dstop)⟩)))⟩)))⟩)))⟩)))⟩)))⟩)))⟩)))⟩)))⟩)))⟩)))⟩)))⟩)))⟩)))
 refine dalt (sto_ (y' := y7) rfl rfl tv rfl rfl rfl rfl e12 (nl rfl) rfl rfl rfl rfl (dk0 ⟨[], tv, tv, (dfin (wk_ ⟨[(0, .own 2097152 0 4 (((a0.set a1.toNat y3).set a3.toNat y7).map eDLease)), (1, iV a1), (2, iV a2), (4, .clo f4 k4)], [], []⟩ (fg ⟨(congrArg (fun z => some ((.own 2097152 0 4 z : V))) overlay_map), rfl, rfl, rfl, tv⟩ tv) (seq_ (reg_ (st (mv_ rfl tv (st (c_ (cp_ t3 rfl tv) (st (mv_ rfl tv (st (c_ (cp_ t3 rfl tv) (st (mv_ rfl tv (st (mv_ rfl tv (oe_ (wk_ ⟨[(0, .own 2097152 0 4 (((a0.set a1.toNat y3).set a3.toNat y7).map eDLease)), (1, iV a1), (4, .clo f4 k4), (12, iV (IntKind.i64.wrap (a1 + 1))), (13, iV (IntKind.i64.wrap (a2 - 1)))], [], []⟩ (fg ⟨rfl, rfl, rfl, rfl, rfl, tv⟩ tv) (seq_ (block_ ?_))))))))))))))))))))⟩)) dstop
 obtain ⟨r55, e56, h0⟩ := bnd h0
 refine loop_ (R := (fun S => ∃ p41 : Int, p41 = r55 ∧ S = ⟨[(0, .own 2097152 0 4 (((a0.set a1.toNat y3).set a3.toNat y7).map eDLease)), (1, iV a1), (4, .clo f4 k4), (12, iV p41), (13, iV (IntKind.i64.wrap (a2 - 1)))], [], []⟩)) (g155_l0 a0 a1 a2 a3 is4 y3 y7) (fun s S => match s with | p26 => S = ⟨[(0, .own 2097152 0 4 (((a0.set a1.toNat y3).set a3.toNat y7).map eDLease)), (1, iV a1), (4, .clo f4 k4), (12, iV p26), (13, iV (IntKind.i64.wrap (a2 - 1)))], [], []⟩) e56 ⟨[(0, .own 2097152 0 4 (((a0.set a1.toNat y3).set a3.toNat y7).map eDLease)), (1, iV a1), (4, .clo f4 k4), (12, iV (IntKind.i64.wrap (a1 + 1))), (13, iV (IntKind.i64.wrap (a2 - 1)))], [], []⟩ (fg ⟨rfl, rfl, rfl, rfl, rfl, tv⟩ tv) rfl 0 (fun _ => rfl) ?_ ?_
 ·rintro S _ hfg ⟨p41, rfl, rfl⟩
  refine wk_ ⟨[(0, .own 2097152 0 4 (((a0.set a1.toNat y3).set a3.toNat y7).map eDLease)), (1, iV a1), (4, .clo f4 k4), (12, iV p41), (13, iV (IntKind.i64.wrap (a2 - 1)))], [], []⟩ (fgl hfg ⟨rfl, rfl, rfl, rfl, rfl, tv⟩ tv) (seq_ (block_ ?_))
  obtain ⟨r95, e96, h0⟩ := bnd h0
  refine loop_ (R := (fun S => ∃ p83 : Int, p83 = r95 ∧ S = ⟨[(0, .own 2097152 0 4 (((a0.set a1.toNat y3).set a3.toNat y7).map eDLease)), (1, iV a1), (4, .clo f4 k4), (12, iV p41), (13, iV p83)], [], []⟩)) (g155_l1 a0 a1 a3 is4 y3 y7 p41) (fun s S => match s with | p70 => S = ⟨[(0, .own 2097152 0 4 (((a0.set a1.toNat y3).set a3.toNat y7).map eDLease)), (1, iV a1), (4, .clo f4 k4), (12, iV p41), (13, iV p70)], [], []⟩) e96 ⟨[(0, .own 2097152 0 4 (((a0.set a1.toNat y3).set a3.toNat y7).map eDLease)), (1, iV a1), (4, .clo f4 k4), (12, iV p41), (13, iV (IntKind.i64.wrap (a2 - 1)))], [], []⟩ (fg ⟨rfl, rfl, rfl, rfl, rfl, tv⟩ tv) rfl 2 (fun _ => rfl) ?_ ?_
  ·rintro S _ hfg ⟨p83, rfl, rfl⟩
   refine wk_ ⟨[(0, .own 2097152 0 4 (((a0.set a1.toNat y3).set a3.toNat y7).map eDLease)), (1, iV a1), (4, .clo f4 k4), (12, iV p41), (13, iV p83)], [], []⟩ (fgl hfg ⟨rfl, rfl, rfl, rfl, rfl, tv⟩ tv) (seq_ (seq_ (reg_ (st (mv_ rfl tv (st (mv_ rfl tv (st (c_ (cp_ t3 rfl tv) (oe_ (wk_ ⟨[(0, .own 2097152 0 4 (((a0.set a1.toNat y3).set a3.toNat y7).map eDLease)), (1, iV a1), (4, .clo f4 k4), (12, iV p41), (13, iV p83), (71, .bool (decide (p41 > p83)))], [], []⟩ (fg ⟨rfl, rfl, rfl, rfl, rfl, rfl, tv⟩ tv) (ite_ (cb := (decide (p41 > p83))) rfl (fun c97 => ?_) (fun c97 => ?_)))))))))))))
   ·replace h0 := ip c97 h0
    refine seq_ ?_
    obtain ⟨y98, e99, h0⟩ := bnd h0
    obtain ⟨y100, e101, h0⟩ := bnd h0
    obtain ⟨y102, e103, h0⟩ := bnd h0
    obtain ⟨y104, e105, h0⟩ := bnd h0
    obtain ⟨y106, e107, h0⟩ := bnd h0
    obtain ⟨y108, e109, h0⟩ := bnd h0
    refine draw_ (dtake tv (mv_ rfl tv (⟨tv, (dtake tv (mv_ rfl tv (⟨tv, (dtake tv (mv_ rfl tv (⟨tv, (dtake tv (mv_ rfl tv (⟨tv, (dtake tv (mv_ rfl tv (⟨tv, (dtake tv (mv_ rfl tv (⟨tv, (dtake tv (c_ (cidxO (e := eDLease) (y := y98) rfl rfl tv rfl rfl tv e99) (⟨tv, (dtakeO (c_ (v := .agg (eDLease y100)) (cloadO (e := eDLease) (y := y100) (v := .agg (eDLease y100)) rfl rfl tv rfl rfl e101 rfl (nl rfl) rfl) (⟨⟨(again1 (cloadO (e := eDLease) (y := y100) (v := .agg (eDLease y100)) rfl rfl tv rfl rfl e101 rfl (nl rfl) rfl) rfl), tv⟩, (dtake tv (mv_ rfl tv (⟨⟨(again1 (cloadO (e := eDLease) (y := y100) (v := .agg (eDLease y100)) rfl rfl tv rfl rfl e101 rfl (nl rfl) rfl) rfl), tv⟩, (dtake tv (mv_ rfl tv (⟨⟨(again1 (cloadO (e := eDLease) (y := y100) (v := .agg (eDLease y100)) rfl rfl tv rfl rfl e101 rfl (nl rfl) rfl) rfl), tv⟩, (dtake tv (c_ (cidxO (e := eDLease) (y := y102) rfl rfl tv rfl rfl tv e103) (⟨⟨(again1 (cloadO (e := eDLease) (y := y100) (v := .agg (eDLease y100)) rfl rfl tv rfl rfl e101 rfl (nl rfl) rfl) rfl), tv⟩, (dtakeO (c_ (v := .agg (eDLease y104)) (cloadO (e := eDLease) (y := y104) (v := .agg (eDLease y104)) rfl rfl tv rfl rfl e105 rfl (nl rfl) rfl) (⟨⟨(again1 (cloadO (e := eDLease) (y := y104) (v := .agg (eDLease y104)) rfl rfl tv rfl rfl e105 rfl (nl rfl) rfl) rfl), (again1 (cloadO (e := eDLease) (y := y100) (v := .agg (eDLease y100)) rfl rfl tv rfl rfl e101 rfl (nl rfl) rfl) rfl), tv⟩, (dtake tv (c_ (cidxO (e := eDLease) (y := y102) rfl rfl tv rfl rfl tv e103) (⟨⟨(again1 (cloadO (e := eDLease) (y := y104) (v := .agg (eDLease y104)) rfl rfl tv rfl rfl e105 rfl (nl rfl) rfl) rfl), (again1 (cloadO (e := eDLease) (y := y100) (v := .agg (eDLease y100)) rfl rfl tv rfl rfl e101 rfl (nl rfl) rfl) rfl), tv⟩, (dalt (sto_ (y' := y100) rfl rfl tv rfl rfl rfl rfl e105 (nl rfl) rfl rfl rfl rfl (dkw ⟨[(0, .own 2097152 0 4 ((((a0.set a1.toNat y3).set a3.toNat y7).set p83.toNat y100).map eDLease)), (1, iV a1), (13, iV p83), (74, .own 2097152 0 4 ((((a0.set a1.toNat y3).set a3.toNat y7).set p83.toNat y100).map eDLease)), (75, iV a1), (83, .agg (eDLease y104))], [], []⟩ (fg ⟨(congrArg (fun z => some ((.own 2097152 0 4 z : V))) overlay_map), rfl, rfl, (congrArg (fun z => some ((.own 2097152 0 4 z : V))) overlay_map), rfl, rfl, tv⟩ tv) ⟨[], ⟨⟨.inl tv, (again1 (cmv (v := iV a1) rfl tv) rfl)⟩, ⟨.inl tv, (again1 (cmv (v := .own 2097152 0 4 ((((a0.set a1.toNat y3).set a3.toNat y7).set p83.toNat y100).map eDLease)) rfl tv) rfl)⟩, tv⟩, tv, (dtake tv (c_ (cidxO (e := eDLease) (y := y106) rfl rfl tv rfl rfl tv e107) (⟨tv, ?_⟩)))⟩)) dstop)⟩)))⟩)))⟩)))⟩)))⟩)))⟩)))⟩)))⟩)))⟩)))⟩)))⟩)))⟩)))⟩)))
    refine dalt (sto_ (y' := y104) rfl rfl tv rfl rfl rfl rfl e109 (nl rfl) rfl rfl rfl rfl (dk0 ⟨[], tv, tv, (dfin (wk_ ⟨[(0, .own 2097152 0 4 (((((a0.set a1.toNat y3).set a3.toNat y7).set p83.toNat y100).set a1.toNat y104).map eDLease)), (13, iV p83)], [], []⟩ (fg ⟨(congrArg (fun z => some ((.own 2097152 0 4 z : V))) overlay_map), rfl, tv⟩ tv) (seq_ (reg_ (st (mv_ rfl tv (st (mv_ rfl tv (st (mvc_ tv (oe_ ?_)))))))))))⟩)) dstop
    obtain ⟨v110, e111, h0⟩ := bl h0
    refine wk_ ⟨[(0, .own 2097152 0 4 (v110.map eDLease)), (10, iV p83), (11, .bool true)], [], []⟩ (fgk (by subst e111; kernel_rfl)) ?_
    obtain rfl := Option.some.inj h0
    exact rt_ (ret_ rfl rfl rfl rfl rfl ⟨⟨rfl, mlen (fun _ => rfl)⟩, tv⟩)
   ·replace h0 := inb c97 h0
    refine sk_ (wk_ ⟨[(0, .own 2097152 0 4 (((a0.set a1.toNat y3).set a3.toNat y7).map eDLease)), (1, iV a1), (4, .clo f4 k4), (12, iV p41), (13, iV p83)], [], []⟩ (fg ⟨rfl, rfl, rfl, rfl, rfl, tv⟩ tv) (seq_ ?_))
    obtain ⟨y112, e113, h0⟩ := bnd h0
    obtain ⟨y114, e115, h0⟩ := bnd h0
    obtain ⟨y116, e117, h0⟩ := bnd h0
    obtain ⟨y118, e119, h0⟩ := bnd h0
    obtain ⟨y120, e121, h0⟩ := bnd h0
    obtain ⟨y122, e123, h0⟩ := bnd h0
    refine draw_ (dtake tv (mv_ rfl tv (⟨tv, (dtake tv (mv_ rfl tv (⟨tv, (dtake tv (mv_ rfl tv (⟨tv, (dtake tv (mv_ rfl tv (⟨tv, (dtake tv (mv_ rfl tv (⟨tv, (dtake tv (mv_ rfl tv (⟨tv, (dtake tv (c_ (cidxO (e := eDLease) (y := y112) rfl rfl tv rfl rfl tv e113) (⟨tv, (dtakeO (c_ (v := .agg (eDLease y114)) (cloadO (e := eDLease) (y := y114) (v := .agg (eDLease y114)) rfl rfl tv rfl rfl e115 rfl (nl rfl) rfl) (⟨⟨(again1 (cloadO (e := eDLease) (y := y114) (v := .agg (eDLease y114)) rfl rfl tv rfl rfl e115 rfl (nl rfl) rfl) rfl), tv⟩, (dtake tv (mv_ rfl tv (⟨⟨(again1 (cloadO (e := eDLease) (y := y114) (v := .agg (eDLease y114)) rfl rfl tv rfl rfl e115 rfl (nl rfl) rfl) rfl), tv⟩, (dtake tv (mv_ rfl tv (⟨⟨(again1 (cloadO (e := eDLease) (y := y114) (v := .agg (eDLease y114)) rfl rfl tv rfl rfl e115 rfl (nl rfl) rfl) rfl), tv⟩, (dtake tv (c_ (cidxO (e := eDLease) (y := y116) rfl rfl tv rfl rfl tv e117) (⟨⟨(again1 (cloadO (e := eDLease) (y := y114) (v := .agg (eDLease y114)) rfl rfl tv rfl rfl e115 rfl (nl rfl) rfl) rfl), tv⟩, (dtakeO (c_ (v := .agg (eDLease y118)) (cloadO (e := eDLease) (y := y118) (v := .agg (eDLease y118)) rfl rfl tv rfl rfl e119 rfl (nl rfl) rfl) (⟨⟨(again1 (cloadO (e := eDLease) (y := y118) (v := .agg (eDLease y118)) rfl rfl tv rfl rfl e119 rfl (nl rfl) rfl) rfl), (again1 (cloadO (e := eDLease) (y := y114) (v := .agg (eDLease y114)) rfl rfl tv rfl rfl e115 rfl (nl rfl) rfl) rfl), tv⟩, (dtake tv (c_ (cidxO (e := eDLease) (y := y116) rfl rfl tv rfl rfl tv e117) (⟨⟨(again1 (cloadO (e := eDLease) (y := y118) (v := .agg (eDLease y118)) rfl rfl tv rfl rfl e119 rfl (nl rfl) rfl) rfl), (again1 (cloadO (e := eDLease) (y := y114) (v := .agg (eDLease y114)) rfl rfl tv rfl rfl e115 rfl (nl rfl) rfl) rfl), tv⟩, (dalt (sto_ (y' := y114) rfl rfl tv rfl rfl rfl rfl e119 (nl rfl) rfl rfl rfl rfl (dkw ⟨[(0, .own 2097152 0 4 ((((a0.set a1.toNat y3).set a3.toNat y7).set p41.toNat y114).map eDLease)), (1, iV a1), (4, .clo f4 k4), (12, iV p41), (13, iV p83), (89, .own 2097152 0 4 ((((a0.set a1.toNat y3).set a3.toNat y7).set p41.toNat y114).map eDLease)), (90, iV p83), (98, .agg (eDLease y118))], [], []⟩ (fg ⟨(congrArg (fun z => some ((.own 2097152 0 4 z : V))) overlay_map), rfl, rfl, rfl, rfl, (congrArg (fun z => some ((.own 2097152 0 4 z : V))) overlay_map), rfl, rfl, tv⟩ tv) ⟨[], ⟨⟨.inl tv, (again1 (cmv (v := iV p83) rfl tv) rfl)⟩, ⟨.inl tv, (again1 (cmv (v := .own 2097152 0 4 ((((a0.set a1.toNat y3).set a3.toNat y7).set p41.toNat y114).map eDLease)) rfl tv) rfl)⟩, tv⟩, tv, (dtake tv (c_ (cidxO (e := eDLease) (y := y120) rfl rfl tv rfl rfl tv e121) (⟨tv, ?_⟩)))⟩)) dstop)⟩)))⟩)))⟩)))⟩)))⟩)))⟩)))⟩)))⟩)))⟩)))⟩)))⟩)))⟩)))⟩)))
    refine dalt (sto_ (y' := y118) rfl rfl tv rfl rfl rfl rfl e123 (nl rfl) rfl rfl rfl rfl (dk0 ⟨[], tv, tv, (dfin (wk_ ⟨[(0, .own 2097152 0 4 (((((a0.set a1.toNat y3).set a3.toNat y7).set p41.toNat y114).set p83.toNat y118).map eDLease)), (1, iV a1), (4, .clo f4 k4), (12, iV p41), (13, iV p83)], [], []⟩ (fg ⟨(congrArg (fun z => some ((.own 2097152 0 4 z : V))) overlay_map), rfl, rfl, rfl, rfl, tv⟩ tv) (seq_ (reg_ (st (mv_ rfl tv (st (c_ (cp_ t3 rfl tv) (st (mv_ rfl tv (oe_ ?_)))))))))))⟩)) dstop
    obtain ⟨v124, e125, h0⟩ := bl h0
    refine wk_ ⟨[(0, .own 2097152 0 4 (v124.map eDLease)), (1, iV a1), (4, .clo f4 k4), (12, iV (IntKind.i64.wrap (p41 + 1))), (13, iV p83)], [], []⟩ (fg ⟨(by subst e125; rfl), (by subst e125; rfl), (by subst e125; rfl), (by subst e125; rfl), (by subst e125; rfl), tv⟩ tv) (seq_ (reg_ (st (mv_ rfl tv (st (c_ (cp_ t3 rfl tv) (st (mv_ rfl tv (oe_ (wk_ ⟨[(0, .own 2097152 0 4 (v124.map eDLease)), (1, iV a1), (4, .clo f4 k4), (12, iV (IntKind.i64.wrap (p41 + 1))), (13, iV (IntKind.i64.wrap (p83 - 1)))], [], []⟩ (fg ⟨rfl, rfl, rfl, rfl, rfl, tv⟩ tv) (seq_ (block_ ?_))))))))))))
    obtain ⟨r355, e356, h0⟩ := bnd h0
    refine loop_ (R := (fun S => ∃ p264 : List DLease, ∃ p265 : Int, (p264, p265) = r355 ∧ S = ⟨[(0, .own 2097152 0 4 (p264.map eDLease)), (1, iV a1), (13, iV p265)], [], []⟩)) (g155_l2 a1 is4) (fun s S => match s with | (p195, p196, p197) => S = ⟨[(0, .own 2097152 0 4 (p195.map eDLease)), (1, iV a1), (4, .clo f4 k4), (12, iV p196), (13, iV p197)], [], []⟩) e356 ⟨[(0, .own 2097152 0 4 (v124.map eDLease)), (1, iV a1), (4, .clo f4 k4), (12, iV (IntKind.i64.wrap (p41 + 1))), (13, iV (IntKind.i64.wrap (p83 - 1)))], [], []⟩ (fg ⟨rfl, rfl, rfl, rfl, rfl, tv⟩ tv) rfl 4 (fun _ => rfl) ?_ ?_
    ·rintro S _ hfg ⟨p264, p265, rfl, rfl⟩
     refine wk_ ⟨[(0, .own 2097152 0 4 (p264.map eDLease)), (1, iV a1), (13, iV p265)], [], []⟩ (fglk hfg (by kernel_rfl)) (seq_ ?_)
     obtain ⟨y357, e358, h0⟩ := bnd h0
     obtain ⟨y359, e360, h0⟩ := bnd h0
     obtain ⟨y361, e362, h0⟩ := bnd h0
     obtain ⟨y363, e364, h0⟩ := bnd h0
     obtain ⟨y365, e366, h0⟩ := bnd h0
     obtain ⟨y367, e368, h0⟩ := bnd h0
     refine draw_ (dtake tv (mv_ rfl tv (⟨tv, (dtake tv (mv_ rfl tv (⟨tv, (dtake tv (mv_ rfl tv (⟨tv, (dtake tv (mv_ rfl tv (⟨tv, (dtake tv (mv_ rfl tv (⟨tv, (dtake tv (mv_ rfl tv (⟨tv, (dtake tv (c_ (cidxO (e := eDLease) (y := y357) rfl rfl tv rfl rfl tv e358) (⟨tv, (dtakeO (c_ (v := .agg (eDLease y359)) (cloadO (e := eDLease) (y := y359) (v := .agg (eDLease y359)) rfl rfl tv rfl rfl e360 rfl (nl rfl) rfl) (⟨⟨(again1 (cloadO (e := eDLease) (y := y359) (v := .agg (eDLease y359)) rfl rfl tv rfl rfl e360 rfl (nl rfl) rfl) rfl), tv⟩, (dtake tv (mv_ rfl tv (⟨⟨(again1 (cloadO (e := eDLease) (y := y359) (v := .agg (eDLease y359)) rfl rfl tv rfl rfl e360 rfl (nl rfl) rfl) rfl), tv⟩, (dtake tv (mv_ rfl tv (⟨⟨(again1 (cloadO (e := eDLease) (y := y359) (v := .agg (eDLease y359)) rfl rfl tv rfl rfl e360 rfl (nl rfl) rfl) rfl), tv⟩, (dtake tv (c_ (cidxO (e := eDLease) (y := y361) rfl rfl tv rfl rfl tv e362) (⟨⟨(again1 (cloadO (e := eDLease) (y := y359) (v := .agg (eDLease y359)) rfl rfl tv rfl rfl e360 rfl (nl rfl) rfl) rfl), tv⟩, (dtakeO (c_ (v := .agg (eDLease y363)) (cloadO (e := eDLease) (y := y363) (v := .agg (eDLease y363)) rfl rfl tv rfl rfl e364 rfl (nl rfl) rfl) (⟨⟨(again1 (cloadO (e := eDLease) (y := y363) (v := .agg (eDLease y363)) rfl rfl tv rfl rfl e364 rfl (nl rfl) rfl) rfl), (again1 (cloadO (e := eDLease) (y := y359) (v := .agg (eDLease y359)) rfl rfl tv rfl rfl e360 rfl (nl rfl) rfl) rfl), tv⟩, (dtake tv (c_ (cidxO (e := eDLease) (y := y361) rfl rfl tv rfl rfl tv e362) (⟨⟨(again1 (cloadO (e := eDLease) (y := y363) (v := .agg (eDLease y363)) rfl rfl tv rfl rfl e364 rfl (nl rfl) rfl) rfl), (again1 (cloadO (e := eDLease) (y := y359) (v := .agg (eDLease y359)) rfl rfl tv rfl rfl e360 rfl (nl rfl) rfl) rfl), tv⟩, (dalt (sto_ (y' := y359) rfl rfl tv rfl rfl rfl rfl e364 (nl rfl) rfl rfl rfl rfl (dkw ⟨[(0, .own 2097152 0 4 ((p264.set p265.toNat y359).map eDLease)), (1, iV a1), (13, iV p265), (165, .own 2097152 0 4 ((p264.set p265.toNat y359).map eDLease)), (166, iV a1), (174, .agg (eDLease y363))], [], []⟩ (fg ⟨(congrArg (fun z => some ((.own 2097152 0 4 z : V))) overlay_map), rfl, rfl, (congrArg (fun z => some ((.own 2097152 0 4 z : V))) overlay_map), rfl, rfl, tv⟩ tv) ⟨[], ⟨⟨.inl tv, (again1 (cmv (v := iV a1) rfl tv) rfl)⟩, ⟨.inl tv, (again1 (cmv (v := .own 2097152 0 4 ((p264.set p265.toNat y359).map eDLease)) rfl tv) rfl)⟩, tv⟩, tv, (dtake tv (c_ (cidxO (e := eDLease) (y := y365) rfl rfl tv rfl rfl tv e366) (⟨tv, ?_⟩)))⟩)) dstop)⟩)))⟩)))⟩)))⟩)))⟩)))⟩)))⟩)))⟩)))⟩)))⟩)))⟩)))⟩)))⟩)))
     refine dalt (sto_ (y' := y363) rfl rfl tv rfl rfl rfl rfl e368 (nl rfl) rfl rfl rfl rfl (dk0 ⟨[], tv, tv, (dfin (wk_ ⟨[(0, .own 2097152 0 4 (((p264.set p265.toNat y359).set a1.toNat y363).map eDLease)), (13, iV p265)], [], []⟩ (fg ⟨(congrArg (fun z => some ((.own 2097152 0 4 z : V))) overlay_map), rfl, tv⟩ tv) (seq_ (reg_ (st (mv_ rfl tv (st (mv_ rfl tv (st (mvc_ tv (oe_ (wk_ ⟨[(0, .own 2097152 0 4 (((p264.set p265.toNat y359).set a1.toNat y363).map eDLease)), (10, iV p265), (11, .bool false)], [], []⟩ (fgk (by kernel_rfl)) ?_))))))))))))⟩)) dstop
     obtain rfl := Option.some.inj h0
     exact rt_ (ret_ rfl rfl rfl rfl rfl ⟨⟨rfl, mlen (fun _ => rfl)⟩, tv⟩)
    ·rintro ⟨p195, p196, p197⟩ o1 _ K1 rfl h1 hx1 hK1 hE1 hR1
     refine block_ (seq_ (block_ ?_))
     obtain ⟨r302, e303, h1⟩ := bnd h1
     refine loop_ (R := (fun S => ∃ p290 : Int, p290 = r302 ∧ S = ⟨[(0, .own 2097152 0 4 (p195.map eDLease)), (1, iV a1), (4, .clo f4 k4), (12, iV p290), (13, iV p197)], [], []⟩)) (g155_l3 a1 is4 p195 p197) (fun s S => match s with | p277 => S = ⟨[(0, .own 2097152 0 4 (p195.map eDLease)), (1, iV a1), (4, .clo f4 k4), (12, iV p277), (13, iV p197)], [], []⟩) e303 ⟨[(0, .own 2097152 0 4 (p195.map eDLease)), (1, iV a1), (4, .clo f4 k4), (12, iV p196), (13, iV p197)], [], []⟩ (fg ⟨rfl, rfl, rfl, rfl, rfl, tv⟩ tv) rfl 6 (fun _ => rfl) ?_ ?_
     ·rintro S _ hfg ⟨p290, rfl, rfl⟩
      refine wk_ ⟨[(0, .own 2097152 0 4 (p195.map eDLease)), (1, iV a1), (4, .clo f4 k4), (12, iV p290), (13, iV p197)], [], []⟩ (fgl hfg ⟨rfl, rfl, rfl, rfl, rfl, tv⟩ tv) (seq_ (block_ ?_))
      obtain ⟨r340, e341, h1⟩ := bnd h1
      refine loop_ (R := (fun S => ∃ p328 : Int, p328 = r340 ∧ S = ⟨[(0, .own 2097152 0 4 (p195.map eDLease)), (1, iV a1), (4, .clo f4 k4), (12, iV p290), (13, iV p328)], [], []⟩)) (g155_l4 a1 is4 p195 p290) (fun s S => match s with | p315 => S = ⟨[(0, .own 2097152 0 4 (p195.map eDLease)), (1, iV a1), (4, .clo f4 k4), (12, iV p290), (13, iV p315)], [], []⟩) e341 ⟨[(0, .own 2097152 0 4 (p195.map eDLease)), (1, iV a1), (4, .clo f4 k4), (12, iV p290), (13, iV p197)], [], []⟩ (fg ⟨rfl, rfl, rfl, rfl, rfl, tv⟩ tv) rfl 8 (fun _ => rfl) ?_ ?_
      ·rintro S _ hfg ⟨p328, rfl, rfl⟩
       refine wk_ ⟨[(0, .own 2097152 0 4 (p195.map eDLease)), (1, iV a1), (4, .clo f4 k4), (12, iV p290), (13, iV p328)], [], []⟩ (fgl hfg ⟨rfl, rfl, rfl, rfl, rfl, tv⟩ tv) (seq_ (seq_ (reg_ (st (mv_ rfl tv (st (mv_ rfl tv (st (c_ (cp_ t3 rfl tv) (oe_ (wk_ ⟨[(0, .own 2097152 0 4 (p195.map eDLease)), (1, iV a1), (4, .clo f4 k4), (12, iV p290), (13, iV p328), (144, .bool (decide (p290 > p328)))], [], []⟩ (fg ⟨rfl, rfl, rfl, rfl, rfl, rfl, tv⟩ tv) (ite_ (cb := (decide (p290 > p328))) rfl (fun c342 => ?_) (fun c342 => ?_)))))))))))))
       ·replace h1 := ip c342 h1
        obtain rfl := Option.some.inj h1
        obtain rfl := hx1 _ rfl
        refine exQ rfl ?_
        exact hE1 _ ⟨[(0, .own 2097152 0 4 (p195.map eDLease)), (1, iV a1), (13, iV p328)], [], []⟩ (fgk (by kernel_rfl)) ⟨_, _, rfl, rfl⟩
       ·replace h1 := inb c342 h1
        refine sk_ (wk_ ⟨[(0, .own 2097152 0 4 (p195.map eDLease)), (1, iV a1), (4, .clo f4 k4), (12, iV p290), (13, iV p328)], [], []⟩ (fg ⟨rfl, rfl, rfl, rfl, rfl, tv⟩ tv) (seq_ ?_))
        obtain ⟨y343, e344, h1⟩ := bnd h1
        obtain ⟨y345, e346, h1⟩ := bnd h1
        obtain ⟨y347, e348, h1⟩ := bnd h1
        obtain ⟨y349, e350, h1⟩ := bnd h1
        obtain ⟨y351, e352, h1⟩ := bnd h1
        obtain ⟨y353, e354, h1⟩ := bnd h1
        refine draw_ (dtake tv (mv_ rfl tv (⟨tv, (dtake tv (mv_ rfl tv (⟨tv, (dtake tv (mv_ rfl tv (⟨tv, (dtake tv (mv_ rfl tv (⟨tv, (dtake tv (mv_ rfl tv (⟨tv, (dtake tv (mv_ rfl tv (⟨tv, (dtake tv (c_ (cidxO (e := eDLease) (y := y343) rfl rfl tv rfl rfl tv e344) (⟨tv, (dtakeO (c_ (v := .agg (eDLease y345)) (cloadO (e := eDLease) (y := y345) (v := .agg (eDLease y345)) rfl rfl tv rfl rfl e346 rfl (nl rfl) rfl) (⟨⟨(again1 (cloadO (e := eDLease) (y := y345) (v := .agg (eDLease y345)) rfl rfl tv rfl rfl e346 rfl (nl rfl) rfl) rfl), tv⟩, (dtake tv (mv_ rfl tv (⟨⟨(again1 (cloadO (e := eDLease) (y := y345) (v := .agg (eDLease y345)) rfl rfl tv rfl rfl e346 rfl (nl rfl) rfl) rfl), tv⟩, (dtake tv (mv_ rfl tv (⟨⟨(again1 (cloadO (e := eDLease) (y := y345) (v := .agg (eDLease y345)) rfl rfl tv rfl rfl e346 rfl (nl rfl) rfl) rfl), tv⟩, (dtake tv (c_ (cidxO (e := eDLease) (y := y347) rfl rfl tv rfl rfl tv e348) (⟨⟨(again1 (cloadO (e := eDLease) (y := y345) (v := .agg (eDLease y345)) rfl rfl tv rfl rfl e346 rfl (nl rfl) rfl) rfl), tv⟩, (dtakeO (c_ (v := .agg (eDLease y349)) (cloadO (e := eDLease) (y := y349) (v := .agg (eDLease y349)) rfl rfl tv rfl rfl e350 rfl (nl rfl) rfl) (⟨⟨(again1 (cloadO (e := eDLease) (y := y349) (v := .agg (eDLease y349)) rfl rfl tv rfl rfl e350 rfl (nl rfl) rfl) rfl), (again1 (cloadO (e := eDLease) (y := y345) (v := .agg (eDLease y345)) rfl rfl tv rfl rfl e346 rfl (nl rfl) rfl) rfl), tv⟩, (dtake tv (c_ (cidxO (e := eDLease) (y := y347) rfl rfl tv rfl rfl tv e348) (⟨⟨(again1 (cloadO (e := eDLease) (y := y349) (v := .agg (eDLease y349)) rfl rfl tv rfl rfl e350 rfl (nl rfl) rfl) rfl), (again1 (cloadO (e := eDLease) (y := y345) (v := .agg (eDLease y345)) rfl rfl tv rfl rfl e346 rfl (nl rfl) rfl) rfl), tv⟩, (dalt (sto_ (y' := y345) rfl rfl tv rfl rfl rfl rfl e350 (nl rfl) rfl rfl rfl rfl (dkw ⟨[(0, .own 2097152 0 4 ((p195.set p290.toNat y345).map eDLease)), (1, iV a1), (4, .clo f4 k4), (12, iV p290), (13, iV p328), (147, .own 2097152 0 4 ((p195.set p290.toNat y345).map eDLease)), (148, iV p328), (156, .agg (eDLease y349))], [], []⟩ (fg ⟨(congrArg (fun z => some ((.own 2097152 0 4 z : V))) overlay_map), rfl, rfl, rfl, rfl, (congrArg (fun z => some ((.own 2097152 0 4 z : V))) overlay_map), rfl, rfl, tv⟩ tv) ⟨[], ⟨⟨.inl tv, (again1 (cmv (v := iV p328) rfl tv) rfl)⟩, ⟨.inl tv, (again1 (cmv (v := .own 2097152 0 4 ((p195.set p290.toNat y345).map eDLease)) rfl tv) rfl)⟩, tv⟩, tv, (dtake tv (c_ (cidxO (e := eDLease) (y := y351) rfl rfl tv rfl rfl tv e352) (⟨tv, ?_⟩)))⟩)) dstop)⟩)))⟩)))⟩)))⟩)))⟩)))⟩)))⟩)))⟩)))⟩)))⟩)))⟩)))⟩)))⟩)))
        refine dalt (sto_ (y' := y349) rfl rfl tv rfl rfl rfl rfl e354 (nl rfl) rfl rfl rfl rfl (dk0 ⟨[], tv, tv, (dfin (wk_ ⟨[(0, .own 2097152 0 4 (((p195.set p290.toNat y345).set p328.toNat y349).map eDLease)), (1, iV a1), (4, .clo f4 k4), (12, iV p290), (13, iV p328)], [], []⟩ (fg ⟨(congrArg (fun z => some ((.own 2097152 0 4 z : V))) overlay_map), rfl, rfl, rfl, rfl, tv⟩ tv) (seq_ (reg_ (st (mv_ rfl tv (st (c_ (cp_ t3 rfl tv) (st (mv_ rfl tv (oe_ (wk_ ⟨[(0, .own 2097152 0 4 (((p195.set p290.toNat y345).set p328.toNat y349).map eDLease)), (1, iV a1), (4, .clo f4 k4), (12, iV (IntKind.i64.wrap (p290 + 1))), (13, iV p328)], [], []⟩ (fg ⟨rfl, rfl, rfl, rfl, rfl, tv⟩ tv) (reg_ (st (mv_ rfl tv (st (c_ (cp_ t3 rfl tv) (st (mv_ rfl tv (oe_ (bn_ ?_)))))))))))))))))))))⟩)) dstop
        obtain rfl := Option.some.inj h1
        exact hK1 _ rfl _ ⟨[(0, .own 2097152 0 4 (((p195.set p290.toNat y345).set p328.toNat y349).map eDLease)), (1, iV a1), (4, .clo f4 k4), (12, iV (IntKind.i64.wrap (p290 + 1))), (13, iV (IntKind.i64.wrap (p328 - 1)))], [], []⟩ (fg ⟨rfl, rfl, rfl, rfl, rfl, tv⟩ tv) rfl
      ·rintro p315 o2 _ K2 rfl h2 hx2 hK2 hE2 hR2
       refine seq_ (seq_ ?_)
       obtain ⟨y329, e330, h2⟩ := bnd h2
       obtain ⟨y331, e332, h2⟩ := bnd h2
       obtain ⟨y333, e334, h2⟩ := bnd h2
       obtain ⟨y335, e336, h2⟩ := bnd h2
       obtain ⟨r337, e338, h2⟩ := bnd h2
       refine draw_ (dtake tv (mv_ rfl tv (⟨tv, (dtake tv (mv_ rfl tv (⟨tv, (dtake tv (c_ (cp_ t3 rfl tv) (⟨tv, (dtake tv (mv_ rfl tv (⟨tv, (dtake tv (pg_ (u := .clo f4 k4) rfl (fun hg => (cmv (v := .clo f4 k4) rfl tv)) (⟨tv, (dtake tv (pg_ (u := .own 2097152 0 4 (p195.map eDLease)) rfl (fun hg => (cmv (v := .own 2097152 0 4 (p195.map eDLease)) rfl tv)) (⟨tv, (dtake tv (pg_ (u := iV p315) rfl (fun hg => (cmv (v := iV p315) rfl tv)) (⟨tv, (dtake tv (pg_ (u := .optr 2097152 4 (0 + p315.toNat) 0) rfl (fun hg => (cidxO (e := eDLease) (y := y329) rfl rfl (fun _ => hg) rfl rfl (fun _ => hg) (ip hg e330))) (⟨tv, (dtakeO (pg_ (u := .agg (eDLease y331)) rfl (fun hg => (cloadO (e := eDLease) (y := y331) (v := .agg (eDLease y331)) rfl rfl (fun _ => hg) rfl rfl (ip hg e332) rfl (nl rfl) rfl)) (⟨⟨(againg (v := .agg (eDLease y331)) rfl (fun hg => (cloadO (e := eDLease) (y := y331) (v := .agg (eDLease y331)) rfl rfl (fun _ => hg) rfl rfl (ip hg e332) rfl (nl rfl) rfl)) rfl), tv⟩, (dtake tv (pg_ (u := .own 2097152 0 4 (p195.map eDLease)) rfl (fun hg => (cmv (v := .own 2097152 0 4 (p195.map eDLease)) rfl tv)) (⟨⟨(againg (v := .agg (eDLease y331)) rfl (fun hg => (cloadO (e := eDLease) (y := y331) (v := .agg (eDLease y331)) rfl rfl (fun _ => hg) rfl rfl (ip hg e332) rfl (nl rfl) rfl)) rfl), tv⟩, (dtake tv (pg_ (u := iV a1) rfl (fun hg => (cmv (v := iV a1) rfl tv)) (⟨⟨(againg (v := .agg (eDLease y331)) rfl (fun hg => (cloadO (e := eDLease) (y := y331) (v := .agg (eDLease y331)) rfl rfl (fun _ => hg) rfl rfl (ip hg e332) rfl (nl rfl) rfl)) rfl), tv⟩, (dtake tv (pg_ (u := .optr 2097152 4 (0 + a1.toNat) 0) rfl (fun hg => (cidxO (e := eDLease) (y := y333) rfl rfl (fun _ => hg) rfl rfl (fun _ => hg) (ip hg e334))) (⟨⟨(againg (v := .agg (eDLease y331)) rfl (fun hg => (cloadO (e := eDLease) (y := y331) (v := .agg (eDLease y331)) rfl rfl (fun _ => hg) rfl rfl (ip hg e332) rfl (nl rfl) rfl)) rfl), tv⟩, (dtakeO (pg_ (u := .agg (eDLease y335)) rfl (fun hg => (cloadO (e := eDLease) (y := y335) (v := .agg (eDLease y335)) rfl rfl (fun _ => hg) rfl rfl (ip hg e336) rfl (nl rfl) rfl)) (⟨⟨(againg (v := .agg (eDLease y335)) rfl (fun hg => (cloadO (e := eDLease) (y := y335) (v := .agg (eDLease y335)) rfl rfl (fun _ => hg) rfl rfl (ip hg e336) rfl (nl rfl) rfl)) rfl), (againg (v := .agg (eDLease y331)) rfl (fun hg => (cloadO (e := eDLease) (y := y331) (v := .agg (eDLease y331)) rfl rfl (fun _ => hg) rfl rfl (ip hg e332) rfl (nl rfl) rfl)) rfl), tv⟩, (dalt (callvg_ (r := iV r337) rfl rfl rfl (fun hg => hg) false (fun hg => hf4 _ _ r337 (ip hg e338)) ⟨(fun hg => hg), (fun hg => hg), tv⟩ (fun _ => (and_ rfl (and_ rfl hs4.2.2.1))) (fun _ => (mapc1 rfl (mapc1 rfl (hs4.2.1 _ _ _ _ _)))) (fun _ => rfl) (fun h => nomatch h) (dkw ⟨[(0, .own 2097152 0 4 (p195.map eDLease)), (1, iV a1), (4, .clo f4 k4), (12, iV p290), (13, iV p315), (126, .bool (decide (p290 ≤ p315))), (136, .may ((decide (p290 ≤ p315)) == true) (iV r337))], [], []⟩ (fg ⟨rfl, rfl, rfl, rfl, rfl, rfl, rfl, tv⟩ tv) ⟨[], tv, tv, (dtake tv (pg_ (u := .bool (decide (r337 < 0))) rfl (fun hg => (cp_ ⟨(fun _ => hg), tv, tv⟩ rfl tv)) (⟨tv, ?_⟩)))⟩)) dstop)⟩)))⟩)))⟩)))⟩)))⟩)))⟩)))⟩)))⟩)))⟩)))⟩)))⟩)))⟩)))⟩)))
       refine dtake tv (pg_ (u := .bool (!(decide (r337 < 0)))) rfl (fun hg => (cp_ ⟨(fun _ => hg), tv⟩ rfl tv)) (⟨tv, (dtake tv (pick_ rfl rfl rfl (fun h => eqt h) tv rfl (⟨tv, (dfin (wk_ ⟨[(0, .own 2097152 0 4 (p195.map eDLease)), (1, iV a1), (4, .clo f4 k4), (12, iV p290), (13, iV p315), (139, .bool (bif (decide (p290 ≤ p315)) then (!(decide (r337 < 0))) else false))], [], []⟩ (fg ⟨rfl, rfl, rfl, rfl, rfl, rfl, tv⟩ tv) (ite_ (cb := (bif (decide (p290 ≤ p315)) then (!(decide (r337 < 0))) else false)) rfl (fun c339 => ?_) (fun c339 => ?_))))⟩)))⟩))
       ·replace h2 := ip c339 h2
        refine sk_ (wk_ ⟨[(0, .own 2097152 0 4 (p195.map eDLease)), (1, iV a1), (4, .clo f4 k4), (12, iV p290), (13, iV p315)], [], []⟩ (fg ⟨rfl, rfl, rfl, rfl, rfl, tv⟩ tv) (block_ (reg_ (st (mv_ rfl tv (st (c_ (cp_ t3 rfl tv) (st (mv_ rfl tv (oe_ (bn_ ?_)))))))))))
        obtain rfl := Option.some.inj h2
        exact hK2 _ rfl _ ⟨[(0, .own 2097152 0 4 (p195.map eDLease)), (1, iV a1), (4, .clo f4 k4), (12, iV p290), (13, iV (IntKind.i64.wrap (p315 - 1)))], [], []⟩ (fg ⟨rfl, rfl, rfl, rfl, rfl, tv⟩ tv) rfl
       ·replace h2 := inb c339 h2
        obtain rfl := Option.some.inj h2
        obtain rfl := hx2 _ rfl
        refine exQ rfl ?_
        exact hE2 _ ⟨[(0, .own 2097152 0 4 (p195.map eDLease)), (1, iV a1), (4, .clo f4 k4), (12, iV p290), (13, iV p315)], [], []⟩ (fg ⟨rfl, rfl, rfl, rfl, rfl, tv⟩ tv) ⟨_, rfl, rfl⟩
     ·rintro p277 o2 _ K2 rfl h2 hx2 hK2 hE2 hR2
      refine seq_ (seq_ ?_)
      obtain ⟨y291, e292, h2⟩ := bnd h2
      obtain ⟨y293, e294, h2⟩ := bnd h2
      obtain ⟨y295, e296, h2⟩ := bnd h2
      obtain ⟨y297, e298, h2⟩ := bnd h2
      obtain ⟨r299, e300, h2⟩ := bnd h2
      refine draw_ (dtake tv (mv_ rfl tv (⟨tv, (dtake tv (mv_ rfl tv (⟨tv, (dtake tv (c_ (cp_ t3 rfl tv) (⟨tv, (dtake tv (mv_ rfl tv (⟨tv, (dtake tv (pg_ (u := .clo f4 k4) rfl (fun hg => (cmv (v := .clo f4 k4) rfl tv)) (⟨tv, (dtake tv (pg_ (u := .own 2097152 0 4 (p195.map eDLease)) rfl (fun hg => (cmv (v := .own 2097152 0 4 (p195.map eDLease)) rfl tv)) (⟨tv, (dtake tv (pg_ (u := iV p277) rfl (fun hg => (cmv (v := iV p277) rfl tv)) (⟨tv, (dtake tv (pg_ (u := .optr 2097152 4 (0 + p277.toNat) 0) rfl (fun hg => (cidxO (e := eDLease) (y := y291) rfl rfl (fun _ => hg) rfl rfl (fun _ => hg) (ip hg e292))) (⟨tv, (dtakeO (pg_ (u := .agg (eDLease y293)) rfl (fun hg => (cloadO (e := eDLease) (y := y293) (v := .agg (eDLease y293)) rfl rfl (fun _ => hg) rfl rfl (ip hg e294) rfl (nl rfl) rfl)) (⟨⟨(againg (v := .agg (eDLease y293)) rfl (fun hg => (cloadO (e := eDLease) (y := y293) (v := .agg (eDLease y293)) rfl rfl (fun _ => hg) rfl rfl (ip hg e294) rfl (nl rfl) rfl)) rfl), tv⟩, (dtake tv (pg_ (u := .own 2097152 0 4 (p195.map eDLease)) rfl (fun hg => (cmv (v := .own 2097152 0 4 (p195.map eDLease)) rfl tv)) (⟨⟨(againg (v := .agg (eDLease y293)) rfl (fun hg => (cloadO (e := eDLease) (y := y293) (v := .agg (eDLease y293)) rfl rfl (fun _ => hg) rfl rfl (ip hg e294) rfl (nl rfl) rfl)) rfl), tv⟩, (dtake tv (pg_ (u := iV a1) rfl (fun hg => (cmv (v := iV a1) rfl tv)) (⟨⟨(againg (v := .agg (eDLease y293)) rfl (fun hg => (cloadO (e := eDLease) (y := y293) (v := .agg (eDLease y293)) rfl rfl (fun _ => hg) rfl rfl (ip hg e294) rfl (nl rfl) rfl)) rfl), tv⟩, (dtake tv (pg_ (u := .optr 2097152 4 (0 + a1.toNat) 0) rfl (fun hg => (cidxO (e := eDLease) (y := y295) rfl rfl (fun _ => hg) rfl rfl (fun _ => hg) (ip hg e296))) (⟨⟨(againg (v := .agg (eDLease y293)) rfl (fun hg => (cloadO (e := eDLease) (y := y293) (v := .agg (eDLease y293)) rfl rfl (fun _ => hg) rfl rfl (ip hg e294) rfl (nl rfl) rfl)) rfl), tv⟩, (dtakeO (pg_ (u := .agg (eDLease y297)) rfl (fun hg => (cloadO (e := eDLease) (y := y297) (v := .agg (eDLease y297)) rfl rfl (fun _ => hg) rfl rfl (ip hg e298) rfl (nl rfl) rfl)) (⟨⟨(againg (v := .agg (eDLease y297)) rfl (fun hg => (cloadO (e := eDLease) (y := y297) (v := .agg (eDLease y297)) rfl rfl (fun _ => hg) rfl rfl (ip hg e298) rfl (nl rfl) rfl)) rfl), (againg (v := .agg (eDLease y293)) rfl (fun hg => (cloadO (e := eDLease) (y := y293) (v := .agg (eDLease y293)) rfl rfl (fun _ => hg) rfl rfl (ip hg e294) rfl (nl rfl) rfl)) rfl), tv⟩, (dalt (callvg_ (r := iV r299) rfl rfl rfl (fun hg => hg) false (fun hg => hf4 _ _ r299 (ip hg e300)) ⟨(fun hg => hg), (fun hg => hg), tv⟩ (fun _ => (and_ rfl (and_ rfl hs4.2.2.1))) (fun _ => (mapc1 rfl (mapc1 rfl (hs4.2.1 _ _ _ _ _)))) (fun _ => rfl) (fun h => nomatch h) (dkw ⟨[(0, .own 2097152 0 4 (p195.map eDLease)), (1, iV a1), (4, .clo f4 k4), (12, iV p277), (13, iV p197), (108, .bool (decide (p277 ≤ p197))), (118, .may ((decide (p277 ≤ p197)) == true) (iV r299))], [], []⟩ (fg ⟨rfl, rfl, rfl, rfl, rfl, rfl, rfl, tv⟩ tv) ⟨[], tv, tv, (dtake tv (pg_ (u := .bool (decide (r299 < 0))) rfl (fun hg => (cp_ ⟨(fun _ => hg), tv, tv⟩ rfl tv)) (⟨tv, ?_⟩)))⟩)) dstop)⟩)))⟩)))⟩)))⟩)))⟩)))⟩)))⟩)))⟩)))⟩)))⟩)))⟩)))⟩)))⟩)))
      refine dtake tv (pick_ rfl rfl rfl (fun h => eqt h) tv rfl (⟨tv, (dfin (wk_ ⟨[(0, .own 2097152 0 4 (p195.map eDLease)), (1, iV a1), (4, .clo f4 k4), (12, iV p277), (13, iV p197), (120, .bool (bif (decide (p277 ≤ p197)) then (decide (r299 < 0)) else false))], [], []⟩ (fg ⟨rfl, rfl, rfl, rfl, rfl, rfl, tv⟩ tv) (ite_ (cb := (bif (decide (p277 ≤ p197)) then (decide (r299 < 0)) else false)) rfl (fun c301 => ?_) (fun c301 => ?_))))⟩))
      ·replace h2 := ip c301 h2
       refine sk_ (wk_ ⟨[(0, .own 2097152 0 4 (p195.map eDLease)), (1, iV a1), (4, .clo f4 k4), (12, iV p277), (13, iV p197)], [], []⟩ (fg ⟨rfl, rfl, rfl, rfl, rfl, tv⟩ tv) (block_ (reg_ (st (mv_ rfl tv (st (c_ (cp_ t3 rfl tv) (st (mv_ rfl tv (oe_ (bn_ ?_)))))))))))
       obtain rfl := Option.some.inj h2
       exact hK2 _ rfl _ ⟨[(0, .own 2097152 0 4 (p195.map eDLease)), (1, iV a1), (4, .clo f4 k4), (12, iV (IntKind.i64.wrap (p277 + 1))), (13, iV p197)], [], []⟩ (fg ⟨rfl, rfl, rfl, rfl, rfl, tv⟩ tv) rfl
      ·replace h2 := inb c301 h2
       obtain rfl := Option.some.inj h2
       obtain rfl := hx2 _ rfl
       refine exQ rfl ?_
       exact hE2 _ ⟨[(0, .own 2097152 0 4 (p195.map eDLease)), (1, iV a1), (4, .clo f4 k4), (12, iV p277), (13, iV p197)], [], []⟩ (fg ⟨rfl, rfl, rfl, rfl, rfl, tv⟩ tv) ⟨_, rfl, rfl⟩
  ·rintro p70 o1 _ K1 rfl h1 hx1 hK1 hE1 hR1
   refine seq_ (seq_ ?_)
   obtain ⟨y84, e85, h1⟩ := bnd h1
   obtain ⟨y86, e87, h1⟩ := bnd h1
   obtain ⟨y88, e89, h1⟩ := bnd h1
   obtain ⟨y90, e91, h1⟩ := bnd h1
   obtain ⟨r92, e93, h1⟩ := bnd h1
   refine draw_ (dtake tv (mv_ rfl tv (⟨tv, (dtake tv (mv_ rfl tv (⟨tv, (dtake tv (c_ (cp_ t3 rfl tv) (⟨tv, (dtake tv (mv_ rfl tv (⟨tv, (dtake tv (pg_ (u := .clo f4 k4) rfl (fun hg => (cmv (v := .clo f4 k4) rfl tv)) (⟨tv, (dtake tv (pg_ (u := .own 2097152 0 4 (((a0.set a1.toNat y3).set a3.toNat y7).map eDLease)) rfl (fun hg => (cmv (v := .own 2097152 0 4 (((a0.set a1.toNat y3).set a3.toNat y7).map eDLease)) rfl tv)) (⟨tv, (dtake tv (pg_ (u := iV p70) rfl (fun hg => (cmv (v := iV p70) rfl tv)) (⟨tv, (dtake tv (pg_ (u := .optr 2097152 4 (0 + p70.toNat) 0) rfl (fun hg => (cidxO (e := eDLease) (y := y84) rfl rfl (fun _ => hg) rfl rfl (fun _ => hg) (ip hg e85))) (⟨tv, (dtakeO (pg_ (u := .agg (eDLease y86)) rfl (fun hg => (cloadO (e := eDLease) (y := y86) (v := .agg (eDLease y86)) rfl rfl (fun _ => hg) rfl rfl (ip hg e87) rfl (nl rfl) rfl)) (⟨⟨(againg (v := .agg (eDLease y86)) rfl (fun hg => (cloadO (e := eDLease) (y := y86) (v := .agg (eDLease y86)) rfl rfl (fun _ => hg) rfl rfl (ip hg e87) rfl (nl rfl) rfl)) rfl), tv⟩, (dtake tv (pg_ (u := .own 2097152 0 4 (((a0.set a1.toNat y3).set a3.toNat y7).map eDLease)) rfl (fun hg => (cmv (v := .own 2097152 0 4 (((a0.set a1.toNat y3).set a3.toNat y7).map eDLease)) rfl tv)) (⟨⟨(againg (v := .agg (eDLease y86)) rfl (fun hg => (cloadO (e := eDLease) (y := y86) (v := .agg (eDLease y86)) rfl rfl (fun _ => hg) rfl rfl (ip hg e87) rfl (nl rfl) rfl)) rfl), tv⟩, (dtake tv (pg_ (u := iV a1) rfl (fun hg => (cmv (v := iV a1) rfl tv)) (⟨⟨(againg (v := .agg (eDLease y86)) rfl (fun hg => (cloadO (e := eDLease) (y := y86) (v := .agg (eDLease y86)) rfl rfl (fun _ => hg) rfl rfl (ip hg e87) rfl (nl rfl) rfl)) rfl), tv⟩, (dtake tv (pg_ (u := .optr 2097152 4 (0 + a1.toNat) 0) rfl (fun hg => (cidxO (e := eDLease) (y := y88) rfl rfl (fun _ => hg) rfl rfl (fun _ => hg) (ip hg e89))) (⟨⟨(againg (v := .agg (eDLease y86)) rfl (fun hg => (cloadO (e := eDLease) (y := y86) (v := .agg (eDLease y86)) rfl rfl (fun _ => hg) rfl rfl (ip hg e87) rfl (nl rfl) rfl)) rfl), tv⟩, (dtakeO (pg_ (u := .agg (eDLease y90)) rfl (fun hg => (cloadO (e := eDLease) (y := y90) (v := .agg (eDLease y90)) rfl rfl (fun _ => hg) rfl rfl (ip hg e91) rfl (nl rfl) rfl)) (⟨⟨(againg (v := .agg (eDLease y90)) rfl (fun hg => (cloadO (e := eDLease) (y := y90) (v := .agg (eDLease y90)) rfl rfl (fun _ => hg) rfl rfl (ip hg e91) rfl (nl rfl) rfl)) rfl), (againg (v := .agg (eDLease y86)) rfl (fun hg => (cloadO (e := eDLease) (y := y86) (v := .agg (eDLease y86)) rfl rfl (fun _ => hg) rfl rfl (ip hg e87) rfl (nl rfl) rfl)) rfl), tv⟩, (dalt (callvg_ (r := iV r92) rfl rfl rfl (fun hg => hg) false (fun hg => hf4 _ _ r92 (ip hg e93)) ⟨(fun hg => hg), (fun hg => hg), tv⟩ (fun _ => (and_ rfl (and_ rfl hs4.2.2.1))) (fun _ => (mapc1 rfl (mapc1 rfl (hs4.2.1 _ _ _ _ _)))) (fun _ => rfl) (fun h => nomatch h) (dkw ⟨[(0, .own 2097152 0 4 (((a0.set a1.toNat y3).set a3.toNat y7).map eDLease)), (1, iV a1), (4, .clo f4 k4), (12, iV p41), (13, iV p70), (53, .bool (decide (p41 ≤ p70))), (63, .may ((decide (p41 ≤ p70)) == true) (iV r92))], [], []⟩ (fg ⟨rfl, rfl, rfl, rfl, rfl, rfl, rfl, tv⟩ tv) ⟨[], tv, tv, (dtake tv (pg_ (u := .bool (decide (r92 < 0))) rfl (fun hg => (cp_ ⟨(fun _ => hg), tv, tv⟩ rfl tv)) (⟨tv, ?_⟩)))⟩)) dstop)⟩)))⟩)))⟩)))⟩)))⟩)))⟩)))⟩)))⟩)))⟩)))⟩)))⟩)))⟩)))⟩)))
   refine dtake tv (pg_ (u := .bool (!(decide (r92 < 0)))) rfl (fun hg => (cp_ ⟨(fun _ => hg), tv⟩ rfl tv)) (⟨tv, (dtake tv (pick_ rfl rfl rfl (fun h => eqt h) tv rfl (⟨tv, (dfin (wk_ ⟨[(0, .own 2097152 0 4 (((a0.set a1.toNat y3).set a3.toNat y7).map eDLease)), (1, iV a1), (4, .clo f4 k4), (12, iV p41), (13, iV p70), (66, .bool (bif (decide (p41 ≤ p70)) then (!(decide (r92 < 0))) else false))], [], []⟩ (fg ⟨rfl, rfl, rfl, rfl, rfl, rfl, tv⟩ tv) (ite_ (cb := (bif (decide (p41 ≤ p70)) then (!(decide (r92 < 0))) else false)) rfl (fun c94 => ?_) (fun c94 => ?_))))⟩)))⟩))
   ·replace h1 := ip c94 h1
    refine sk_ (wk_ ⟨[(0, .own 2097152 0 4 (((a0.set a1.toNat y3).set a3.toNat y7).map eDLease)), (1, iV a1), (4, .clo f4 k4), (12, iV p41), (13, iV p70)], [], []⟩ (fg ⟨rfl, rfl, rfl, rfl, rfl, tv⟩ tv) (block_ (reg_ (st (mv_ rfl tv (st (c_ (cp_ t3 rfl tv) (st (mv_ rfl tv (oe_ (bn_ ?_)))))))))))
    obtain rfl := Option.some.inj h1
    exact hK1 _ rfl _ ⟨[(0, .own 2097152 0 4 (((a0.set a1.toNat y3).set a3.toNat y7).map eDLease)), (1, iV a1), (4, .clo f4 k4), (12, iV p41), (13, iV (IntKind.i64.wrap (p70 - 1)))], [], []⟩ (fg ⟨rfl, rfl, rfl, rfl, rfl, tv⟩ tv) rfl
   ·replace h1 := inb c94 h1
    obtain rfl := Option.some.inj h1
    obtain rfl := hx1 _ rfl
    refine exQ rfl ?_
    exact hE1 _ ⟨[(0, .own 2097152 0 4 (((a0.set a1.toNat y3).set a3.toNat y7).map eDLease)), (1, iV a1), (4, .clo f4 k4), (12, iV p41), (13, iV p70)], [], []⟩ (fg ⟨rfl, rfl, rfl, rfl, rfl, tv⟩ tv) ⟨_, rfl, rfl⟩
 ·rintro p26 o1 _ K1 rfl h1 hx1 hK1 hE1 hR1
  refine seq_ (seq_ ?_)
  obtain ⟨y42, e43, h1⟩ := bnd h1
  obtain ⟨y44, e45, h1⟩ := bnd h1
  obtain ⟨y46, e47, h1⟩ := bnd h1
  obtain ⟨y48, e49, h1⟩ := bnd h1
  obtain ⟨r50, e51, h1⟩ := bnd h1
  refine draw_ (dtake tv (mv_ rfl tv (⟨tv, (dtake tv (mv_ rfl tv (⟨tv, (dtake tv (c_ (cp_ t3 rfl tv) (⟨tv, (dtake tv (mv_ rfl tv (⟨tv, (dtake tv (pg_ (u := .clo f4 k4) rfl (fun hg => (cmv (v := .clo f4 k4) rfl tv)) (⟨tv, (dtake tv (pg_ (u := .own 2097152 0 4 (((a0.set a1.toNat y3).set a3.toNat y7).map eDLease)) rfl (fun hg => (cmv (v := .own 2097152 0 4 (((a0.set a1.toNat y3).set a3.toNat y7).map eDLease)) rfl tv)) (⟨tv, (dtake tv (pg_ (u := iV p26) rfl (fun hg => (cmv (v := iV p26) rfl tv)) (⟨tv, (dtake tv (pg_ (u := .optr 2097152 4 (0 + p26.toNat) 0) rfl (fun hg => (cidxO (e := eDLease) (y := y42) rfl rfl (fun _ => hg) rfl rfl (fun _ => hg) (ip hg e43))) (⟨tv, (dtakeO (pg_ (u := .agg (eDLease y44)) rfl (fun hg => (cloadO (e := eDLease) (y := y44) (v := .agg (eDLease y44)) rfl rfl (fun _ => hg) rfl rfl (ip hg e45) rfl (nl rfl) rfl)) (⟨⟨(againg (v := .agg (eDLease y44)) rfl (fun hg => (cloadO (e := eDLease) (y := y44) (v := .agg (eDLease y44)) rfl rfl (fun _ => hg) rfl rfl (ip hg e45) rfl (nl rfl) rfl)) rfl), tv⟩, (dtake tv (pg_ (u := .own 2097152 0 4 (((a0.set a1.toNat y3).set a3.toNat y7).map eDLease)) rfl (fun hg => (cmv (v := .own 2097152 0 4 (((a0.set a1.toNat y3).set a3.toNat y7).map eDLease)) rfl tv)) (⟨⟨(againg (v := .agg (eDLease y44)) rfl (fun hg => (cloadO (e := eDLease) (y := y44) (v := .agg (eDLease y44)) rfl rfl (fun _ => hg) rfl rfl (ip hg e45) rfl (nl rfl) rfl)) rfl), tv⟩, (dtake tv (pg_ (u := iV a1) rfl (fun hg => (cmv (v := iV a1) rfl tv)) (⟨⟨(againg (v := .agg (eDLease y44)) rfl (fun hg => (cloadO (e := eDLease) (y := y44) (v := .agg (eDLease y44)) rfl rfl (fun _ => hg) rfl rfl (ip hg e45) rfl (nl rfl) rfl)) rfl), tv⟩, (dtake tv (pg_ (u := .optr 2097152 4 (0 + a1.toNat) 0) rfl (fun hg => (cidxO (e := eDLease) (y := y46) rfl rfl (fun _ => hg) rfl rfl (fun _ => hg) (ip hg e47))) (⟨⟨(againg (v := .agg (eDLease y44)) rfl (fun hg => (cloadO (e := eDLease) (y := y44) (v := .agg (eDLease y44)) rfl rfl (fun _ => hg) rfl rfl (ip hg e45) rfl (nl rfl) rfl)) rfl), tv⟩, (dtakeO (pg_ (u := .agg (eDLease y48)) rfl (fun hg => (cloadO (e := eDLease) (y := y48) (v := .agg (eDLease y48)) rfl rfl (fun _ => hg) rfl rfl (ip hg e49) rfl (nl rfl) rfl)) (⟨⟨(againg (v := .agg (eDLease y48)) rfl (fun hg => (cloadO (e := eDLease) (y := y48) (v := .agg (eDLease y48)) rfl rfl (fun _ => hg) rfl rfl (ip hg e49) rfl (nl rfl) rfl)) rfl), (againg (v := .agg (eDLease y44)) rfl (fun hg => (cloadO (e := eDLease) (y := y44) (v := .agg (eDLease y44)) rfl rfl (fun _ => hg) rfl rfl (ip hg e45) rfl (nl rfl) rfl)) rfl), tv⟩, (dalt (callvg_ (r := iV r50) rfl rfl rfl (fun hg => hg) false (fun hg => hf4 _ _ r50 (ip hg e51)) ⟨(fun hg => hg), (fun hg => hg), tv⟩ (fun _ => (and_ rfl (and_ rfl hs4.2.2.1))) (fun _ => (mapc1 rfl (mapc1 rfl (hs4.2.1 _ _ _ _ _)))) (fun _ => rfl) (fun h => nomatch h) (dkw ⟨[(0, .own 2097152 0 4 (((a0.set a1.toNat y3).set a3.toNat y7).map eDLease)), (1, iV a1), (4, .clo f4 k4), (12, iV p26), (13, iV (IntKind.i64.wrap (a2 - 1))), (35, .bool (decide (p26 ≤ (IntKind.i64.wrap (a2 - 1))))), (45, .may ((decide (p26 ≤ (IntKind.i64.wrap (a2 - 1)))) == true) (iV r50))], [], []⟩ (fg ⟨rfl, rfl, rfl, rfl, rfl, rfl, rfl, tv⟩ tv) ⟨[], tv, tv, (dtake tv (pg_ (u := .bool (decide (r50 < 0))) rfl (fun hg => (cp_ ⟨(fun _ => hg), tv, tv⟩ rfl tv)) (⟨tv, ?_⟩)))⟩)) dstop)⟩)))⟩)))⟩)))⟩)))⟩)))⟩)))⟩)))⟩)))⟩)))⟩)))⟩)))⟩)))⟩)))
  refine dtake tv (pick_ rfl rfl rfl (fun h => eqt h) tv rfl (⟨tv, (dfin ?_)⟩))
  obtain ⟨v52, e53, h1⟩ := bl h1
  refine wk_ ⟨[(0, .own 2097152 0 4 (((a0.set a1.toNat y3).set a3.toNat y7).map eDLease)), (1, iV a1), (4, .clo f4 k4), (12, iV p26), (13, iV (IntKind.i64.wrap (a2 - 1))), (47, .bool v52)], [], []⟩ (fg ⟨(by subst e53; rfl), (by subst e53; rfl), (by subst e53; rfl), (by subst e53; rfl), (by subst e53; rfl), (by subst e53; rfl), tv⟩ tv) (ite_ (cb := v52) rfl (fun c54 => ?_) (fun c54 => ?_))
  ·replace h1 := ip c54 h1
   refine sk_ (wk_ ⟨[(0, .own 2097152 0 4 (((a0.set a1.toNat y3).set a3.toNat y7).map eDLease)), (1, iV a1), (4, .clo f4 k4), (12, iV p26), (13, iV (IntKind.i64.wrap (a2 - 1)))], [], []⟩ (fg ⟨rfl, rfl, rfl, rfl, rfl, tv⟩ tv) (block_ (reg_ (st (mv_ rfl tv (st (c_ (cp_ t3 rfl tv) (st (mv_ rfl tv (oe_ (bn_ ?_)))))))))))
   obtain rfl := Option.some.inj h1
   exact hK1 _ rfl _ ⟨[(0, .own 2097152 0 4 (((a0.set a1.toNat y3).set a3.toNat y7).map eDLease)), (1, iV a1), (4, .clo f4 k4), (12, iV (IntKind.i64.wrap (p26 + 1))), (13, iV (IntKind.i64.wrap (a2 - 1)))], [], []⟩ (fg ⟨rfl, rfl, rfl, rfl, rfl, tv⟩ tv) rfl
  ·replace h1 := inb c54 h1
   obtain rfl := Option.some.inj h1
   obtain rfl := hx1 _ rfl
   refine exQ rfl ?_
   exact hE1 _ ⟨[(0, .own 2097152 0 4 (((a0.set a1.toNat y3).set a3.toNat y7).map eDLease)), (1, iV a1), (4, .clo f4 k4), (12, iV p26), (13, iV (IntKind.i64.wrap (a2 - 1)))], [], []⟩ (fg ⟨rfl, rfl, rfl, rfl, rfl, tv⟩ tv) ⟨_, rfl, rfl⟩
end Go.Ev
