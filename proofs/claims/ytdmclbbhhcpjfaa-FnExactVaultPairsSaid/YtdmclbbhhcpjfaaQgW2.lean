/- The walks of functions: the code comes to the answers that QgD tells. Written by a program of ours. -/
import Derived.Test.YtdmclbbhhcpjfaaQgW1
set_option linter.all false
set_option maxHeartbeats 4000000
set_option linter.unusedVariables false
set_option maxRecDepth 100000
namespace Go.Ev

/- cmp.Compare[int] -/
def c110_r0 : List Ins := [⟨some 4, .p (.mv (.c (iV 0))), none⟩]
def c110_r1 : List Ins := [(iQ 7 (.mv (.t 0))),
⟨some 8, .call 136 [(.t 7)], none⟩,
(iQ 5 (.mv (.t 8)))]
def c110_r2 : List Ins := [(iQ 9 (.mv (.t 1))),
⟨some 10, .call 136 [(.t 9)], none⟩,
(iQ 6 (.mv (.t 10)))]
def c110_r3 : List Ins := [(iQ 11 (.mv (.t 5)))]
def c110_r4 : List Ins := [(iQ 12 (.mv (.t 6)))]
def c110_r5 : List Ins := [⟨some 4, .p (.mv (.c (iV 0))), none⟩]
def c110_r6 : List Ins := [⟨some 4, .p (.mv (.c (iV (-1)))), none⟩]
def c110_r7 : List Ins := [(iQ 13 (.mv (.t 6)))]
def c110_r8 : List Ins := [⟨some 4, .p (.mv (.c (iV 1))), none⟩]
def c110_r9 : List Ins := [(iQ 14 (.mv (.t 0))),
(iQ 15 (.mv (.t 1))),
(iQ 16 (.bin .lss (.t 14) (.t 15)))]
def c110_r10 : List Ins := [⟨some 4, .p (.mv (.c (iV (-1)))), none⟩]
def c110_r11 : List Ins := [(iQ 17 (.mv (.t 0))),
(iQ 18 (.mv (.t 1))),
(iQ 19 (.bin .gtr (.t 17) (.t 18)))]
def c110_r12 : List Ins := [⟨some 4, .p (.mv (.c (iV 1))), none⟩]
def c110_r13 : List Ins := [⟨some 4, .p (.mv (.c (iV 0))), none⟩]
def c110 : XFn := { np := 2, nt := 20, res := [.t 4], body := (.seq (.reg c110_r0) (.seq (.reg c110_r1) (.seq (.reg c110_r2) (.seq (.seq (.reg c110_r3) (.ite (.t 11) (.seq (.seq (.reg c110_r4) (.ite (.t 12) (.seq (.reg c110_r5) .ret) .skip)) (.seq (.reg c110_r6) .ret)) .skip)) (.seq (.seq (.reg c110_r7) (.ite (.t 13) (.seq (.reg c110_r8) .ret) .skip)) (.seq (.seq (.reg c110_r9) (.ite (.t 16) (.seq (.reg c110_r10) .ret) .skip)) (.seq (.seq (.reg c110_r11) (.ite (.t 19) (.seq (.reg c110_r12) .ret) .skip)) (.seq (.reg c110_r13) .ret)))))))) }
def K110 (C : CRel) : Prop := ∀ (a0 : Int) (a1 : Int) (r : Int), g110 a0 a1 = some r → C 110 ⟨[iV a0, iV a1], []⟩ ⟨iV r, [], []⟩
theorem F110 {C : CRel} (H136 : K136 C) (a0 : Int) (a1 : Int) (r : Int) (h0 : g110 a0 a1 = some r) : FnOK C c110 ⟨[iV a0, iV a1], []⟩ ⟨iV r, [], []⟩ := by
 refine fn_ (nl rfl) (seq_ (reg_ (st (mvc_ tv (oe_ (wk_ ⟨[(0, iV a0), (1, iV a1)], [], []⟩ (fgk (by kernel_rfl)) (seq_ (reg_ (st (mv_ rfl tv ?_))))))))))
 obtain ⟨r1, e2, h0⟩ := bnd h0
 refine st (call0_ (r := .bool r1) false (H136 a0 r1 e2) ⟨tv, tv⟩ rfl rfl (fun _ => rfl) (st (mv_ rfl tv (oe_ (wk_ ⟨[(0, iV a0), (1, iV a1), (5, .bool r1)], [], []⟩ (fgk (by kernel_rfl)) (seq_ (reg_ (st (mv_ rfl tv ?_)))))))))
 obtain ⟨r3, e4, h0⟩ := bnd h0
 refine st (call0_ (r := .bool r3) false (H136 a1 r3 e4) ⟨tv, tv⟩ rfl rfl (fun _ => rfl) (st (mv_ rfl tv (oe_ (wk_ ⟨[(0, iV a0), (1, iV a1), (5, .bool r1), (6, .bool r3)], [], []⟩ (fgk (by kernel_rfl)) (seq_ (seq_ (reg_ (st (mv_ rfl tv (oe_ (wk_ ⟨[(0, iV a0), (1, iV a1), (6, .bool r3), (11, .bool r1)], [], []⟩ (fgk (by kernel_rfl)) (ite_ (cb := r1) rfl (fun c5 => ?_) (fun c5 => ?_))))))))))))))
 ·replace h0 := ip c5 h0
  refine seq_ (seq_ (reg_ (st (mv_ rfl tv (oe_ (wk_ ⟨[(12, .bool r3)], [], []⟩ (fgk (by kernel_rfl)) (ite_ (cb := r3) rfl (fun c6 => ?_) (fun c6 => ?_))))))))
  ·replace h0 := ip c6 h0
   refine seq_ (reg_ (st (mvc_ tv (oe_ (wk_ ⟨[(4, iV 0)], [], []⟩ (fgk (by kernel_rfl)) ?_)))))
   obtain rfl := Option.some.inj h0
   exact rt_ (ret_ rfl rfl rfl rfl rfl tv)
  ·replace h0 := inb c6 h0
   refine sk_ (wk_ ⟨[], [], []⟩ (fgk (by kernel_rfl)) (seq_ (reg_ (st (mvc_ tv (oe_ (wk_ ⟨[(4, iV (-1))], [], []⟩ (fgk (by kernel_rfl)) ?_)))))))
   obtain rfl := Option.some.inj h0
   exact rt_ (ret_ rfl rfl rfl rfl rfl tv)
 ·replace h0 := inb c5 h0
  refine sk_ (wk_ ⟨[(0, iV a0), (1, iV a1), (6, .bool r3)], [], []⟩ (fgk (by kernel_rfl)) (seq_ (seq_ (reg_ (st (mv_ rfl tv (oe_ (wk_ ⟨[(0, iV a0), (1, iV a1), (13, .bool r3)], [], []⟩ (fgk (by kernel_rfl)) (ite_ (cb := r3) rfl (fun c7 => ?_) (fun c7 => ?_))))))))))
  ·replace h0 := ip c7 h0
   refine seq_ (reg_ (st (mvc_ tv (oe_ (wk_ ⟨[(4, iV 1)], [], []⟩ (fgk (by kernel_rfl)) ?_)))))
   obtain rfl := Option.some.inj h0
   exact rt_ (ret_ rfl rfl rfl rfl rfl tv)
  ·replace h0 := inb c7 h0
   refine sk_ (wk_ ⟨[(0, iV a0), (1, iV a1)], [], []⟩ (fgk (by kernel_rfl)) (seq_ (seq_ (reg_ (st (mv_ rfl tv (st (mv_ rfl tv (st (c_ (cp_ t3 rfl tv) (oe_ (wk_ ⟨[(0, iV a0), (1, iV a1), (16, .bool (decide (a0 < a1)))], [], []⟩ (fgk (by kernel_rfl)) (ite_ (cb := (decide (a0 < a1))) rfl (fun c8 => ?_) (fun c8 => ?_))))))))))))))
   ·replace h0 := ip c8 h0
    refine seq_ (reg_ (st (mvc_ tv (oe_ (wk_ ⟨[(4, iV (-1))], [], []⟩ (fgk (by kernel_rfl)) ?_)))))
    obtain rfl := Option.some.inj h0
    exact rt_ (ret_ rfl rfl rfl rfl rfl tv)
   ·replace h0 := inb c8 h0
    refine sk_ (wk_ ⟨[(0, iV a0), (1, iV a1)], [], []⟩ (fgk (by kernel_rfl)) (seq_ (seq_ (reg_ (st (mv_ rfl tv (st (mv_ rfl tv (st (c_ (cp_ t3 rfl tv) (oe_ (wk_ ⟨[(19, .bool (decide (a0 > a1)))], [], []⟩ (fgk (by kernel_rfl)) (ite_ (cb := (decide (a0 > a1))) rfl (fun c9 => ?_) (fun c9 => ?_))))))))))))))
    ·replace h0 := ip c9 h0
     refine seq_ (reg_ (st (mvc_ tv (oe_ (wk_ ⟨[(4, iV 1)], [], []⟩ (fgk (by kernel_rfl)) ?_)))))
     obtain rfl := Option.some.inj h0
     exact rt_ (ret_ rfl rfl rfl rfl rfl tv)
    ·replace h0 := inb c9 h0
     refine sk_ (wk_ ⟨[], [], []⟩ (fgk (by kernel_rfl)) (seq_ (reg_ (st (mvc_ tv (oe_ (wk_ ⟨[(4, iV 0)], [], []⟩ (fgk (by kernel_rfl)) ?_)))))))
     obtain rfl := Option.some.inj h0
     exact rt_ (ret_ rfl rfl rfl rfl rfl tv)

/- (loop.example/g00149/impl.Table).find$1 -/
def c114_r0 : List Ins := [⟨some 2, .box (.t 0), none⟩,
⟨some 4, .p (.mv (.c (iV 0))), none⟩]
def c114_r1 : List Ins := [(iQ 5 (.fieldA (.t 2) 0)),
(iQ 6 (.load (.t 5) 1 false)),
(iQ 7 (.mv (.t 1))),
⟨some 8, .call 110 [(.t 6), (.t 7)], none⟩,
(iQ 4 (.mv (.t 8)))]
def c114 : XFn := { np := 2, nt := 9, res := [.t 4], body := (.seq (.reg c114_r0) (.seq (.reg c114_r1) .ret)) }
def K114 (C : CRel) : Prop := ∀ (a0 : DLease) (a1 : Int) (r : Int), g114 a0 a1 = some r → C 114 ⟨[.agg (eDLease a0), iV a1], []⟩ ⟨iV r, [], []⟩
theorem F114 {C : CRel} (H110 : K110 C) (a0 : DLease) (a1 : Int) (r : Int) (h0 : g114 a0 a1 = some r) : FnOK C c114 ⟨[.agg (eDLease a0), iV a1], []⟩ ⟨iV r, [], []⟩ := by
 refine fn_ (nl rfl) (seq_ (reg_ (st (box_ rfl tv rfl (st (mvc_ tv (oe_ (wk_ ⟨[(1, iV a1), (2, .ptr 128 0)], [(128, [iV a0.id, iV a0.until_, iV a0.cap, .bool a0.queued])], []⟩ (fgk (by kernel_rfl)) (seq_ (reg_ (st (c_ (cp_ ⟨tv, tv⟩ rfl tv) (st (c_ (cp_ ⟨tv, tv⟩ rfl (nl rfl)) (st (mv_ rfl tv ?_))))))))))))))))
 obtain ⟨r1, e2, h0⟩ := bnd h0
 refine st (call0_ (r := iV r1) false (H110 a0.id a1 r1 e2) ⟨tv, tv, tv⟩ rfl rfl (fun _ => rfl) (st (mv_ rfl tv (oe_ (wk_ ⟨[(4, iV r1)], [], []⟩ (fgk (by kernel_rfl)) ?_)))))
 obtain rfl := Option.some.inj h0
 exact rt_ (ret_ rfl rfl rfl rfl rfl tv)

/- (loop.example/g00149/impl.Table).find -/
def c77_r0 : List Ins := [⟨some 2, .box (.t 0), none⟩,
⟨some 4, .p (.mv (.c (iV 0))), none⟩,
⟨some 5, .p (.mv (.c (.bool false))), none⟩]
def c77_r1 : List Ins := [(iQ 6 (.fieldA (.t 2) 2)),
(iQ 7 (.load (.t 6) 1 false)),
(iQ 8 (.mv (.t 1))),
⟨some 9, .call 113 [(.t 7), (.t 8), (.c (.clo 114 []))], none⟩,
(iQ 10 (.ext (.t 9) 0)),
(iQ 11 (.ext (.t 9) 1)),
(iQ 4 (.mv (.t 10))),
(iQ 5 (.mv (.t 11)))]
def c77 : XFn := { np := 2, nt := 12, res := [.t 4, .t 5], body := (.seq (.reg c77_r0) (.seq (.reg c77_r1) .ret)) }
def K77 (C : CRel) : Prop := ∀ (a0 : DTable) (a1 : Int) (r : Int × Bool), g77 a0 a1 = some r → C 77 ⟨[.agg (eDTable a0), iV a1], []⟩ ⟨.tup [iV r.1, .bool r.2], [], []⟩
theorem F77 {C : CRel} (H113 : K113 C) (H114 : K114 C) (a0 : DTable) (a1 : Int) (r : Int × Bool) (h0 : g77 a0 a1 = some r) : FnOK C c77 ⟨[.agg (eDTable a0), iV a1], []⟩ ⟨.tup [iV r.1, .bool r.2], [], []⟩ := by
 refine fn_ (nl rfl) (seq_ (reg_ (st (box_ rfl tv rfl (st (mvc_ tv (st (mvc_ tv (oe_ (wk_ ⟨[(1, iV a1), (2, .ptr 128 0)], [(128, [iV a0.clock, iV a0.next, .lst 4 (a0.list_.map eDLease)])], []⟩ (fgk (by kernel_rfl)) (seq_ (reg_ (st (c_ (cp_ ⟨tv, tv⟩ rfl tv) (st (c_ (cp_ ⟨tv, tv⟩ rfl (nl rfl)) (st (mv_ rfl tv ?_))))))))))))))))))
 obtain ⟨r1, e2, h0⟩ := bnd h0
 refine st (call0_ (r := .tup [iV r1.1, .bool r1.2]) false (H113 a0.list_ a1 114 [] (fun z114_0 z114_1 => g114 z114_0 z114_1) (⟨fun _ _ _ _ _ => rfl, fun _ _ _ _ _ => rfl, rfl, fun _ _ _ n => by cases n <;> rfl, fun _ => rfl⟩) (fun z114_0 z114_1 r h => H114 z114_0 z114_1 r h) r1 e2) ⟨tv, tv, tv, tv⟩ rfl rfl (fun _ => rfl) (st (c_ (cp_ ⟨tv, tv⟩ rfl tv) (st (c_ (cp_ ⟨tv, tv⟩ rfl tv) (st (mv_ rfl tv (st (mv_ rfl tv (oe_ (wk_ ⟨[(4, iV r1.1), (5, .bool r1.2)], [], []⟩ (fgk (by kernel_rfl)) ?_)))))))))))
 obtain rfl := Option.some.inj h0
 exact rt_ (ret_ rfl rfl rfl rfl rfl tv)

/- loop.example/g00149/impl.VaultOK$1 -/
def c98_r0 : List Ins := [⟨some 3, .p (.mv (.c (.bool false))), none⟩]
def c98_r1 : List Ins := [(iQ 7 (.fieldA (.t 1) 0)),
(iQ 8 (.load (.t 7) 3 true)),
(iQ 9 (.mv (.t 0))),
⟨some 10, .call 77 [(.t 8), (.t 9)], none⟩,
(iQ 6 (.mv (.t 10))),
(iQ 11 (.ext (.t 6) 0)),
(iQ 12 (.ext (.t 6) 1)),
(iQ 4 (.mv (.t 11))),
(iQ 5 (.mv (.t 12)))]
def c98_r2 : List Ins := [(iQ 13 (.mv (.t 5))),
(iQ 14 (.un .not (.t 13))),
(iQ 3 (.mv (.t 14)))]
def c98 : XFn := { np := 2, nt := 15, res := [.t 3], body := (.seq (.reg c98_r0) (.seq (.reg c98_r1) (.seq (.reg c98_r2) .ret))) }
def K98 (C : CRel) : Prop := ∀ (a0 : Int) (a1 : DVault) (r : Bool), g98 a0 a1 = some r → C 98 ⟨[iV a0, .iptr [iV a1.table.clock, iV a1.table.next, .lst 4 (a1.table.list_.map eDLease), .lst 2 (a1.intents.map eDIntent), .lst 1 (a1.accounts.map eI), .bool a1.sealed]], []⟩ ⟨.bool r, [], []⟩
theorem F98 {C : CRel} (H77 : K77 C) (a0 : Int) (a1 : DVault) (r : Bool) (h0 : g98 a0 a1 = some r) : FnOK C c98 ⟨[iV a0, .iptr [iV a1.table.clock, iV a1.table.next, .lst 4 (a1.table.list_.map eDLease), .lst 2 (a1.intents.map eDIntent), .lst 1 (a1.accounts.map eI), .bool a1.sealed]], []⟩ ⟨.bool r, [], []⟩ := by
 refine fn_ (nl rfl) (seq_ (reg_ (st (mvc_ tv (oe_ (wk_ ⟨[(0, iV a0), (1, .iptr [iV a1.table.clock, iV a1.table.next, .lst 4 (a1.table.list_.map eDLease), .lst 2 (a1.intents.map eDIntent), .lst 1 (a1.accounts.map eI), .bool a1.sealed])], [], []⟩ (fgk (by kernel_rfl)) (seq_ (reg_ (st (c_ (cp_ ⟨tv, tv⟩ rfl (nl rfl)) (st (c_ (v := .agg [iV a1.table.clock, iV a1.table.next, .lst 4 (a1.table.list_.map eDLease)]) (cp_ ⟨tv, tv⟩ rfl (nl rfl)) (st (mv_ rfl tv ?_))))))))))))))
 obtain ⟨r1, e2, h0⟩ := bnd h0
 refine st (call0_ (r := .tup [iV r1.1, .bool r1.2]) false (H77 a1.table a0 r1 e2) ⟨tv, tv, tv⟩ rfl rfl (fun _ => rfl) (st (mv_ rfl tv (st (c_ (cp_ ⟨tv, tv⟩ rfl tv) (st (c_ (cp_ ⟨tv, tv⟩ rfl tv) (st (mv_ rfl tv (st (mv_ rfl tv (oe_ (wk_ ⟨[(5, .bool r1.2)], [], []⟩ (fgk (by kernel_rfl)) (seq_ (reg_ (st (mv_ rfl tv (st (c_ (cp_ ⟨tv, tv⟩ rfl tv) (st (mv_ rfl tv (oe_ (wk_ ⟨[(3, .bool (!r1.2))], [], []⟩ (fgk (by kernel_rfl)) ?_)))))))))))))))))))))))
 obtain rfl := Option.some.inj h0
 exact rt_ (ret_ rfl rfl rfl rfl rfl tv)

/- loop.example/g00149/impl.VaultOK -/
def c48_r0 : List Ins := [⟨some 1, .box (.t 0), none⟩,
⟨some 2, .p (.mv (.c (.bool false))), none⟩]
def c48_r1 : DP := (.take (iQ 5 (.fieldA (.t 1) 0))
(.take (iQ 6 (.load (.t 5) 3 true))
(.alt [] ⟨some 7, .call 20 [(.t 6)], none⟩
(.take (iQ 8 (.un .not (.t 7)))
(.take (iQ 9 (.mv (.t 8)))
(.take ⟨some 10, .p (.fieldA (.t 1) 3), some (9, false)⟩
(.take ⟨some 11, .p (.load (.t 10) 1 false), some (9, false)⟩
(.take ⟨some 12, .p (.len (.t 11)), some (9, false)⟩
(.take ⟨some 13, .p (.bin .gtr (.t 12) (.c (iV 40))), some (9, false)⟩
(.take ⟨some 14, .pick (.t 9) (.c (.bool true)) (.t 13), none⟩
(.take (iQ 15 (.mv (.t 14)))
(.take ⟨some 16, .p (.fieldA (.t 1) 3), some (15, false)⟩
(.take ⟨some 17, .p (.load (.t 16) 1 false), some (15, false)⟩
(.take ⟨some 19, .p (.fieldA (.t 1) 0), some (15, false)⟩
(.take ⟨some 20, .p (.fieldA (.t 19) 1), some (15, false)⟩
(.take ⟨some 21, .p (.load (.t 20) 1 false), some (15, false)⟩
(.take ⟨some 22, .p (.bin .sub (.t 21) (.c (iV 1))), some (15, false)⟩
(.alt [⟨some 22, .p (.bin .sub (.t 21) (.c (iV 1))), some (15, false)⟩, ⟨some 21, .p (.load (.t 20) 1 false), some (15, false)⟩, ⟨some 20, .p (.fieldA (.t 19) 1), some (15, false)⟩, ⟨some 19, .p (.fieldA (.t 1) 0), some (15, false)⟩] ⟨some 18, .call 95 [(.t 17)], some (15, false)⟩
(.alt [] ⟨some 23, .call 59 [(.t 18), (.c (iV 1)), (.t 22)], some (15, false)⟩
(.take ⟨some 24, .p (.un .not (.t 23)), some (15, false)⟩
(.take ⟨some 25, .pick (.t 15) (.c (.bool true)) (.t 24), none⟩
(.take (iQ 26 (.mv (.t 25)))
(.take ⟨some 27, .p (.fieldA (.t 1) 4), some (26, false)⟩
(.take ⟨some 28, .p (.load (.t 27) 1 false), some (26, false)⟩
(.take ⟨some 29, .p (.len (.t 28)), some (26, false)⟩
(.take ⟨some 30, .p (.bin .gtr (.t 29) (.c (iV 80))), some (26, false)⟩
(.take ⟨some 31, .pick (.t 26) (.c (.bool true)) (.t 30), none⟩
(.take (iQ 32 (.mv (.t 31)))
(.take ⟨some 33, .p (.fieldA (.t 1) 4), some (32, false)⟩
(.take ⟨some 34, .p (.load (.t 33) 1 false), some (32, false)⟩
(.take ⟨some 35, .p (.fieldA (.t 1) 0), some (32, false)⟩
(.take ⟨some 36, .p (.fieldA (.t 35) 1), some (32, false)⟩
(.take ⟨some 37, .p (.load (.t 36) 1 false), some (32, false)⟩
(.take ⟨some 38, .p (.bin .sub (.t 37) (.c (iV 1))), some (32, false)⟩
(.alt [] ⟨some 39, .call 59 [(.t 34), (.c (iV 1)), (.t 38)], some (32, false)⟩
(.take ⟨some 40, .p (.un .not (.t 39)), some (32, false)⟩
(.take ⟨some 41, .pick (.t 32) (.c (.bool true)) (.t 40), none⟩
.fin))
.stop))))))))))))))))
.stop)
.stop)))))))))))))))
.stop)))
def c48_r2 : List Ins := [⟨some 2, .p (.mv (.c (.bool false))), none⟩]
def c48_r3 : List Ins := [(iQ 43 (.load (.t 1) 6 true)),
⟨some 44, .call 96 [(.t 43)], none⟩,
(iQ 42 (.mv (.t 44))),
(iQ 45 (.ext (.t 42) 0)),
(iQ 46 (.ext (.t 42) 1)),
(iQ 3 (.mv (.t 45))),
(iQ 4 (.mv (.t 46)))]
def c48_r4 : List Ins := [(iQ 47 (.mv (.t 4))),
(iQ 48 (.un .not (.t 47))),
(iQ 49 (.mv (.t 48))),
⟨some 50, .p (.fieldA (.t 1) 3), some (49, true)⟩,
⟨some 51, .p (.load (.t 50) 1 false), some (49, true)⟩,
⟨some 52, .call 95 [(.t 51)], some (49, true)⟩,
⟨some 53, .p (.fn 98 [(.t 1)]), some (49, true)⟩,
⟨some 54, .call 97 [(.t 52), (.t 53)], some (49, true)⟩,
⟨some 55, .pick (.t 49) (.t 54) (.c (.bool false)), none⟩,
(iQ 2 (.mv (.t 55)))]
def c48 : XFn := { np := 1, nt := 56, res := [.t 2], body := (.seq (.reg c48_r0) (.seq (.seq (.draw c48_r1) (.ite (.t 41) (.seq (.reg c48_r2) .ret) .skip)) (.seq (.reg c48_r3) (.seq (.reg c48_r4) .ret)))) }
def K48 (C : CRel) : Prop := ∀ (a0 : DVault) (r : Bool), g48 a0 = some r → C 48 ⟨[.agg (eDVault a0)], []⟩ ⟨.bool r, [], []⟩
theorem F48 {C : CRel} (H20 : K20 C) (H59 : K59 C) (H95 : K95 C) (H96 : K96 C) (H97 : K97 C) (H98 : K98 C) (a0 : DVault) (r : Bool) (h0 : g48 a0 = some r) : FnOK C c48 ⟨[.agg (eDVault a0)], []⟩ ⟨.bool r, [], []⟩ := by
 refine fn_ (nl rfl) (seq_ (reg_ (st (box_ rfl tv rfl (st (mvc_ tv (oe_ (wk_ ⟨[(1, .ptr 64 0)], [(64, [iV a0.table.clock, iV a0.table.next, .lst 4 (a0.table.list_.map eDLease), .lst 2 (a0.intents.map eDIntent), .lst 1 (a0.accounts.map eI), .bool a0.sealed])], []⟩ (fgk (by kernel_rfl)) (seq_ (seq_ ?_))))))))))
 obtain ⟨r1, e2, h0⟩ := bnd h0
 obtain ⟨r3, e4, h0⟩ := bnd h0
 obtain ⟨r5, e6, h0⟩ := bnd h0
 obtain ⟨r7, e8, h0⟩ := bnd h0
 refine draw_ (dtake tv (c_ (cp_ ⟨tv, tv⟩ rfl tv) (⟨tv, (dtake tv (c_ (v := .agg [iV a0.table.clock, iV a0.table.next, .lst 4 (a0.table.list_.map eDLease)]) (cp_ ⟨tv, tv⟩ rfl (nl rfl)) (⟨tv, (dalt (call0_ (r := .bool r1) false (H20 a0.table r1 e2) ⟨tv, tv⟩ rfl rfl (fun _ => rfl) (dkw ⟨[(1, .ptr 64 0), (7, .bool r1)], [(64, [iV a0.table.clock, iV a0.table.next, .lst 4 (a0.table.list_.map eDLease), .lst 2 (a0.intents.map eDIntent), .lst 1 (a0.accounts.map eI), .bool a0.sealed])], []⟩ (fgk (by kernel_rfl)) ⟨[], tv, tv, (dtake tv (c_ (cp_ ⟨tv, tv⟩ rfl tv) (⟨tv, (dtake tv (mv_ rfl tv (⟨tv, (dtake tv (pg_ (u := .ptr 64 3) rfl (fun hg => (cp_ ⟨tv, tv⟩ rfl tv)) (⟨tv, (dtake tv (pg_ (u := .lst 2 (a0.intents.map eDIntent)) rfl (fun hg => (cp_ ⟨(fun _ => hg), tv⟩ rfl (nl rfl))) (⟨tv, (dtake tv (pg_ (u := iV (a0.intents.length : Int)) rfl (fun hg => (clenL (e := eDIntent) (l0 := a0.intents) rfl rfl (fun _ => hg))) (⟨tv, (dtake tv (pg_ (u := .bool (decide ((a0.intents.length : Int) > 40))) rfl (fun hg => (cp_ ⟨(fun _ => hg), tv, tv⟩ rfl tv)) (⟨tv, (dtake tv (pick_ rfl rfl rfl tv (fun h => eqf h) rfl (⟨tv, (dtake tv (mv_ rfl tv (⟨tv, (dtake tv (pg_ (u := .ptr 64 3) rfl (fun hg => (cp_ ⟨tv, tv⟩ rfl tv)) (⟨tv, (dtake tv (pg_ (u := .lst 2 (a0.intents.map eDIntent)) rfl (fun hg => (cp_ ⟨(fun _ => hg), tv⟩ rfl (nl rfl))) (⟨tv, (dtake tv (pg_ (u := .ptr 64 0) rfl (fun hg => (cp_ ⟨tv, tv⟩ rfl tv)) (⟨tv, (dtake tv (pg_ (u := .ptr 64 1) rfl (fun hg => (cp_ ⟨(fun _ => hg), tv⟩ rfl tv)) (⟨tv, ?_⟩)))⟩)))⟩)))⟩)))⟩)))⟩)))⟩)))⟩)))⟩)))⟩)))⟩)))⟩)))⟩)) dstop)⟩)))⟩)))
 refine dtake tv (pg_ (u := iV a0.table.next) rfl (fun hg => (cp_ ⟨(fun _ => hg), tv⟩ rfl (nl rfl))) (⟨tv, (dtake tv (pg_ (u := iV (IntKind.i64.wrap (a0.table.next - 1))) rfl (fun hg => (cp_ ⟨(fun _ => hg), tv, tv⟩ rfl tv)) (⟨tv, (dalt (callg_ (r := .own 0 0 1 (r3.map eI)) rfl false (fun hg => H95 a0.intents r3 (ip hg e4)) ⟨(fun hg => hg), tv⟩ (fun _ => rfl) (fun _ => rfl) (fun _ => (and_ (fl1 (fun _ => rfl)) rfl)) (fun h => nomatch h) (dkw ⟨[(1, .ptr 64 0), (15, .bool (bif (!r1) then true else (decide ((a0.intents.length : Int) > 40)))), (18, .may ((bif (!r1) then true else (decide ((a0.intents.length : Int) > 40))) == false) (.lst 1 (r3.map eI))), (19, .may ((bif (!r1) then true else (decide ((a0.intents.length : Int) > 40))) == false) (.ptr 64 0)), (20, .may ((bif (!r1) then true else (decide ((a0.intents.length : Int) > 40))) == false) (.ptr 64 1)), (21, .may ((bif (!r1) then true else (decide ((a0.intents.length : Int) > 40))) == false) (iV a0.table.next)), (22, .may ((bif (!r1) then true else (decide ((a0.intents.length : Int) > 40))) == false) (iV (IntKind.i64.wrap (a0.table.next - 1))))], [(64, [iV a0.table.clock, iV a0.table.next, .lst 4 (a0.table.list_.map eDLease), .lst 2 (a0.intents.map eDIntent), .lst 1 (a0.accounts.map eI), .bool a0.sealed])], []⟩ (fgk (by kernel_rfl)) ⟨[], ⟨⟨.inl tv, (againg (v := iV (IntKind.i64.wrap (a0.table.next - 1))) rfl (fun hg => (cp_ ⟨(fun _ => hg), tv, tv⟩ rfl tv)) rfl)⟩, ⟨.inl tv, (againg (v := iV a0.table.next) rfl (fun hg => (cp_ ⟨(fun _ => hg), tv⟩ rfl (nl rfl))) rfl)⟩, ⟨.inl tv, (againg (v := .ptr 64 1) rfl (fun hg => (cp_ ⟨(fun _ => hg), tv⟩ rfl tv)) rfl)⟩, ⟨.inl tv, (againg (v := .ptr 64 0) rfl (fun hg => (cp_ ⟨tv, tv⟩ rfl tv)) rfl)⟩, tv⟩, tv, (dalt (callg_ (r := .bool r5) rfl false (fun hg => H59 r3 1 (IntKind.i64.wrap (a0.table.next - 1)) r5 (ip hg e6)) ⟨(fun hg => hg), tv, (fun hg => hg), tv⟩ (fun _ => rfl) (fun _ => rfl) (fun _ => rfl) (fun h => nomatch h) (dkw ⟨[(1, .ptr 64 0), (15, .bool (bif (!r1) then true else (decide ((a0.intents.length : Int) > 40)))), (23, .may ((bif (!r1) then true else (decide ((a0.intents.length : Int) > 40))) == false) (.bool r5))], [(64, [iV a0.table.clock, iV a0.table.next, .lst 4 (a0.table.list_.map eDLease), .lst 2 (a0.intents.map eDIntent), .lst 1 (a0.accounts.map eI), .bool a0.sealed])], []⟩ (fgk (by kernel_rfl)) ⟨[], tv, tv, (dtake tv (pg_ (u := .bool (!r5)) rfl (fun hg => (cp_ ⟨(fun _ => hg), tv⟩ rfl tv)) (⟨tv, (dtake tv (pick_ rfl rfl rfl tv (fun h => eqf h) rfl (⟨tv, (dtake tv (mv_ rfl tv (⟨tv, (dtake tv (pg_ (u := .ptr 64 4) rfl (fun hg => (cp_ ⟨tv, tv⟩ rfl tv)) (⟨tv, (dtake tv (pg_ (u := .lst 1 (a0.accounts.map eI)) rfl (fun hg => (cp_ ⟨(fun _ => hg), tv⟩ rfl (nl rfl))) (⟨tv, (dtake tv (pg_ (u := iV (a0.accounts.length : Int)) rfl (fun hg => (clenL (e := eI) (l0 := a0.accounts) rfl rfl (fun _ => hg))) (⟨tv, (dtake tv (pg_ (u := .bool (decide ((a0.accounts.length : Int) > 80))) rfl (fun hg => (cp_ ⟨(fun _ => hg), tv, tv⟩ rfl tv)) (⟨tv, (dtake tv (pick_ rfl rfl rfl tv (fun h => eqf h) rfl (⟨tv, (dtake tv (mv_ rfl tv (⟨tv, (dtake tv (pg_ (u := .ptr 64 4) rfl (fun hg => (cp_ ⟨tv, tv⟩ rfl tv)) (⟨tv, (dtake tv (pg_ (u := .lst 1 (a0.accounts.map eI)) rfl (fun hg => (cp_ ⟨(fun _ => hg), tv⟩ rfl (nl rfl))) (⟨tv, (dtake tv (pg_ (u := .ptr 64 0) rfl (fun hg => (cp_ ⟨tv, tv⟩ rfl tv)) ?_))⟩)))⟩)))⟩)))⟩)))⟩)))⟩)))⟩)))⟩)))⟩)))⟩)))⟩)))⟩)) dstop)⟩)) dstop)⟩)))⟩))
 refine ⟨tv, (dtake tv (pg_ (u := .ptr 64 1) rfl (fun hg => (cp_ ⟨(fun _ => hg), tv⟩ rfl tv)) (⟨tv, (dtake tv (pg_ (u := iV a0.table.next) rfl (fun hg => (cp_ ⟨(fun _ => hg), tv⟩ rfl (nl rfl))) (⟨tv, (dtake tv (pg_ (u := iV (IntKind.i64.wrap (a0.table.next - 1))) rfl (fun hg => (cp_ ⟨(fun _ => hg), tv, tv⟩ rfl tv)) (⟨tv, (dalt (callg_ (r := .bool r7) rfl false (fun hg => H59 a0.accounts 1 (IntKind.i64.wrap (a0.table.next - 1)) r7 (ip hg e8)) ⟨(fun hg => hg), tv, (fun hg => hg), tv⟩ (fun _ => rfl) (fun _ => rfl) (fun _ => rfl) (fun h => nomatch h) (dkw ⟨[(1, .ptr 64 0), (32, .bool (bif (bif (bif (!r1) then true else (decide ((a0.intents.length : Int) > 40))) then true else (!r5)) then true else (decide ((a0.accounts.length : Int) > 80)))), (39, .may ((bif (bif (bif (!r1) then true else (decide ((a0.intents.length : Int) > 40))) then true else (!r5)) then true else (decide ((a0.accounts.length : Int) > 80))) == false) (.bool r7))], [(64, [iV a0.table.clock, iV a0.table.next, .lst 4 (a0.table.list_.map eDLease), .lst 2 (a0.intents.map eDIntent), .lst 1 (a0.accounts.map eI), .bool a0.sealed])], []⟩ (fgk (by kernel_rfl)) ⟨[], tv, tv, (dtake tv (pg_ (u := .bool (!r7)) rfl (fun hg => (cp_ ⟨(fun _ => hg), tv⟩ rfl tv)) (⟨tv, (dtake tv (pick_ rfl rfl rfl tv (fun h => eqf h) rfl (⟨tv, (dfin ?_)⟩)))⟩)))⟩)) dstop)⟩)))⟩)))⟩)))⟩
 obtain ⟨v9, e10, h0⟩ := bl h0
 refine wk_ ⟨[(1, .ptr 64 0), (41, .bool v9)], [(64, [iV a0.table.clock, iV a0.table.next, .lst 4 (a0.table.list_.map eDLease), .lst 2 (a0.intents.map eDIntent), .lst 1 (a0.accounts.map eI), .bool a0.sealed])], []⟩ (fgk (by subst e10; kernel_rfl)) (ite_ (cb := v9) rfl (fun c11 => ?_) (fun c11 => ?_))
 ·replace h0 := ip c11 h0
  refine seq_ (reg_ (st (mvc_ tv (oe_ (wk_ ⟨[(2, .bool false)], [], []⟩ (fgk (by kernel_rfl)) ?_)))))
  obtain rfl := Option.some.inj h0
  exact rt_ (ret_ rfl rfl rfl rfl rfl tv)
 ·replace h0 := inb c11 h0
  refine sk_ (wk_ ⟨[(1, .ptr 64 0)], [(64, [iV a0.table.clock, iV a0.table.next, .lst 4 (a0.table.list_.map eDLease), .lst 2 (a0.intents.map eDIntent), .lst 1 (a0.accounts.map eI), .bool a0.sealed])], []⟩ (fgk (by kernel_rfl)) (seq_ (reg_ (st (c_ (v := .agg (eDVault a0)) (cp_ ⟨tv, tv⟩ rfl (nl rfl)) ?_)))))
  obtain ⟨r12, e13, h0⟩ := bnd h0
  refine st (call0_ (r := .tup [iV r12.1, .bool r12.2]) false (H96 a0 r12 e13) ⟨tv, tv⟩ rfl rfl (fun _ => rfl) (st (mv_ rfl tv (st (c_ (cp_ ⟨tv, tv⟩ rfl tv) (st (c_ (cp_ ⟨tv, tv⟩ rfl tv) (st (mv_ rfl tv (st (mv_ rfl tv (oe_ (wk_ ⟨[(1, .ptr 64 0), (4, .bool r12.2)], [(64, [iV a0.table.clock, iV a0.table.next, .lst 4 (a0.table.list_.map eDLease), .lst 2 (a0.intents.map eDIntent), .lst 1 (a0.accounts.map eI), .bool a0.sealed])], []⟩ (fgk (by kernel_rfl)) (seq_ (reg_ (st (mv_ rfl tv (st (c_ (cp_ ⟨tv, tv⟩ rfl tv) (st (mv_ rfl tv (st (pg_ (u := .ptr 64 3) rfl (fun hg => (cp_ ⟨tv, tv⟩ rfl tv)) (st (pg_ (u := .lst 2 (a0.intents.map eDIntent)) rfl (fun hg => (cp_ ⟨(fun _ => hg), tv⟩ rfl (nl rfl))) ?_)))))))))))))))))))))))))
  obtain ⟨r14, e15, h0⟩ := bnd h0
  refine st (callg_ (r := .own 0 0 1 (r14.map eI)) rfl false (fun hg => H95 a0.intents r14 (ip hg e15)) ⟨(fun hg => hg), tv⟩ (fun _ => rfl) (fun _ => rfl) (fun _ => (and_ (fl1 (fun _ => rfl)) rfl)) (fun h => nomatch h) (st (pg_ (u := .clo 98 [.ptr 64 0]) rfl (fun hg => (cp_ ⟨tv, tv⟩ rfl rfl)) ?_)))
  obtain ⟨r16, e17, h0⟩ := bnd h0
  refine sw ⟨[(49, .bool (!r12.2)), (52, .may ((!r12.2) == true) (.lst 1 (r14.map eI))), (53, .may ((!r12.2) == true) (.clo 98 [.ptr 64 0]))], [(64, [iV a0.table.clock, iV a0.table.next, .lst 4 (a0.table.list_.map eDLease), .lst 2 (a0.intents.map eDIntent), .lst 1 (a0.accounts.map eI), .bool a0.sealed])], []⟩ (fgk (by kernel_rfl)) (callg_ (r := .bool r16) rfl false (fun hg => H97 r14 98 [.iptr [iV a0.table.clock, iV a0.table.next, .lst 4 (a0.table.list_.map eDLease), .lst 2 (a0.intents.map eDIntent), .lst 1 (a0.accounts.map eI), .bool a0.sealed]] (fun z98_0 => g98 z98_0 a0) (⟨fun _ _ _ _ _ => rfl, fun _ _ _ _ _ => rfl, rfl, fun _ _ _ n => by cases n <;> rfl, fun _ => rfl⟩) (fun z98_0 r h => H98 z98_0 a0 r h) r16 (ip hg e17)) ⟨(fun hg => hg), (fun hg => hg), tv⟩ (fun _ => rfl) (fun _ => rfl) (fun _ => rfl) (fun h => nomatch h) (st (pick_ rfl rfl rfl (fun h => eqt h) tv rfl (st (mv_ rfl tv (oe_ (wk_ ⟨[(2, .bool (bif (!r12.2) then r16 else false))], [], []⟩ (fgk (by kernel_rfl)) ?_)))))))
  obtain rfl := Option.some.inj h0
  exact rt_ (ret_ rfl rfl rfl rfl rfl tv)

/- loop.example/g00149/impl.hex -/
def c358_r0 : List Ins := [⟨some 2, .p (.mv (.c (.str []))), none⟩]
def c358_r1 : List Ins := [⟨some 3, .nilS 1, none⟩]
def c358_r2 : List Ins := [⟨some 4, .p (.mv (.c (iV 15))), none⟩]
def c358_r3 : List Ins := [(iQ 5 (.mv (.t 4))),
⟨some 6, .p (.bin .geq (.t 5) (.c (iV 0))), none⟩]
def c358_r4 : List Ins := [(iQ 9 (.mv (.t 3))),
(iQ 10 (.mv (.t 0))),
(iQ 11 (.mv (.t 4))),
⟨some 12, .p (.bin .mul (.c (iV 4)) (.t 11)), none⟩,
(iQ 13 (.bin .shr (.t 10) (.t 12))),
⟨some 14, .p (.bin .and (.t 13) (.c (iV 15))), none⟩,
⟨some 15, .p (.idxStr (.c (.str [48, 49, 50, 51, 52, 53, 54, 55, 56, 57, 97, 98, 99, 100, 101, 102])) (.t 14)), none⟩,
⟨some 16, .mkS 1 [(.int .u8 0)] 1 [(0, (.t 15))], none⟩,
⟨some 17, .app 1 1 (.t 9) (.t 16), none⟩,
(iQ 3 (.mv (.t 17)))]
def c358_r5 : List Ins := [(iQ 7 (.mv (.t 4))),
⟨some 8, .p (.bin .sub (.t 7) (.c (iV 1))), none⟩,
(iQ 4 (.mv (.t 8)))]
def c358_l0 : IR := (.seq (.seq (.reg c358_r3) (.ite (.t 6) .skip (.exit 0))) (.seq (.block 1 (.reg c358_r4)) (.reg c358_r5)))
def c358_r6 : List Ins := [(iQ 18 (.mv (.t 3))),
(iQ 19 (.toStr (.t 18))),
(iQ 2 (.mv (.t 19)))]
def c358 : XFn := { np := 1, nt := 20, res := [.t 2], body := (.seq (.reg c358_r0) (.seq (.reg c358_r1) (.seq (.seq (.reg c358_r2) (.block 0 (.loop c358_l0))) (.seq (.reg c358_r6) .ret)))) }
def K358 (C : CRel) : Prop := ∀ (a0 : Int) (r : (List UInt8)), g358 a0 = some r → C 358 ⟨[iV a0], []⟩ ⟨.str r, [], []⟩
theorem F358 {C : CRel}  (a0 : Int) (r : (List UInt8)) (h0 : g358 a0 = some r) : FnOK C c358 ⟨[iV a0], []⟩ ⟨.str r, [], []⟩ := by
 refine fn_ (nl rfl) (seq_ (reg_ (st (mvc_ tv (oe_ (wk_ ⟨[(0, iV a0)], [], []⟩ (fgk (by kernel_rfl)) (seq_ (reg_ (st (nilS_ (oe_ (wk_ ⟨[(0, iV a0), (3, .own 192 0 1 ([].map eU8))], [], []⟩ (fgk (by kernel_rfl)) (seq_ (seq_ (reg_ (st (mvc_ tv (oe_ (wk_ ⟨[(0, iV a0), (3, .own 192 0 1 ([].map eU8)), (4, iV 15)], [], []⟩ (fgk (by kernel_rfl)) (block_ ?_))))))))))))))))))))
 obtain ⟨r21, e22, h0⟩ := bnd h0
 refine loop_ (R := (fun S => ∃ p15 : List UInt8, p15 = r21 ∧ S = ⟨[(3, .own 192 0 1 (p15.map eU8))], [], []⟩)) (g358_l0 a0) (fun s S => match s with | (p6, p7) => S = ⟨[(0, iV a0), (3, .own 192 0 1 (p6.map eU8)), (4, iV p7)], [], []⟩) e22 ⟨[(0, iV a0), (3, .own 192 0 1 ([].map eU8)), (4, iV 15)], [], []⟩ (fgk (by kernel_rfl)) rfl 0 (fun _ => rfl) ?_ ?_
 ·rintro S _ hfg ⟨p15, rfl, rfl⟩
  refine wk_ ⟨[(3, .own 192 0 1 (p15.map eU8))], [], []⟩ (fglk hfg (by kernel_rfl)) (seq_ (reg_ (st (mv_ rfl tv (st (c_ (ctoStrO (s := p15) rfl rfl tv) (st (mv_ rfl tv (oe_ (wk_ ⟨[(2, .str p15)], [], []⟩ (fgk (by kernel_rfl)) ?_))))))))))
  obtain rfl := Option.some.inj h0
  exact rt_ (ret_ rfl rfl rfl rfl rfl tv)
 ·rintro ⟨p6, p7⟩ o1 _ K1 rfl h1 hx1 hK1 hE1 hR1
  refine seq_ (seq_ (reg_ (st (mv_ rfl tv (st (c_ (cp_ t3 rfl tv) (oe_ (wk_ ⟨[(0, iV a0), (3, .own 192 0 1 (p6.map eU8)), (4, iV p7), (6, .bool (decide (p7 ≥ 0)))], [], []⟩ (fgk (by kernel_rfl)) (ite_ (cb := (decide (p7 ≥ 0))) rfl (fun c16 => ?_) (fun c16 => ?_))))))))))
  ·replace h1 := ip c16 h1
   refine sk_ (wk_ ⟨[(0, iV a0), (3, .own 192 0 1 (p6.map eU8)), (4, iV p7)], [], []⟩ (fgk (by kernel_rfl)) (seq_ (block_ (reg_ (st (mv_ rfl tv (st (mv_ rfl tv (st (mv_ rfl tv (st (c_ (cp_ t3 rfl tv) ?_))))))))))))
   obtain ⟨c17, h1⟩ := grd h1
   refine st (c_ (cp_ ⟨tv, tv, tv⟩ rfl c17) (st (c_ (cp_ t3 rfl tv) ?_)))
   obtain ⟨y18, e19, h1⟩ := bnd h1
   refine st (c_ (cidxS (y := y18) rfl rfl tv rfl rfl tv e19) (st (mkS_ ⟨tv, tv⟩ ⟨⟨nl rfl, rfl, rfl⟩, tv⟩ ?_)))
   obtain ⟨c20, h1⟩ := grd h1
   refine st (app_ (e := eU8) (l0 := p6) (l1 := ([y18] : List UInt8)) rfl rfl tv rfl (by decide) c20 (st (mv_ rfl tv (oe_ (bn_ (wk_ ⟨[(0, iV a0), (3, .own 192 0 1 ((p6 ++ ([y18] : List UInt8)).map eU8)), (4, iV p7)], [], []⟩ (fgk (by kernel_rfl)) (reg_ (st (mv_ rfl tv (st (c_ (cp_ t3 rfl tv) (st (mv_ rfl tv (oe_ ?_))))))))))))))
   obtain rfl := Option.some.inj h1
   exact hK1 _ rfl _ ⟨[(0, iV a0), (3, .own 192 0 1 ((p6 ++ ([y18] : List UInt8)).map eU8)), (4, iV (IntKind.i64.wrap (p7 - 1)))], [], []⟩ (fgk (by kernel_rfl)) rfl
  ·replace h1 := inb c16 h1
   obtain rfl := Option.some.inj h1
   obtain rfl := hx1 _ rfl
   refine exQ rfl ?_
   exact hE1 _ ⟨[(3, .own 192 0 1 (p6.map eU8))], [], []⟩ (fgk (by kernel_rfl)) ⟨_, rfl, rfl⟩

/- loop.example/g00149/impl.either -/
def c359_r0 : List Ins := [⟨some 6, .p (.mv (.c (.str []))), none⟩]
def c359_r1 : List Ins := [(iQ 7 (.mv (.t 0)))]
def c359_r2 : List Ins := [(iQ 8 (.mv (.t 1))),
(iQ 6 (.mv (.t 8)))]
def c359_r3 : List Ins := [(iQ 9 (.mv (.t 2))),
(iQ 6 (.mv (.t 9)))]
def c359 : XFn := { np := 3, nt := 10, res := [.t 6], body := (.seq (.reg c359_r0) (.seq (.seq (.reg c359_r1) (.ite (.t 7) (.seq (.reg c359_r2) .ret) .skip)) (.seq (.reg c359_r3) .ret))) }
def K359 (C : CRel) : Prop := ∀ (a0 : Bool) (a1 : List UInt8) (a2 : List UInt8) (r : (List UInt8)), g359 a0 a1 a2 = some r → C 359 ⟨[.bool a0, .str a1, .str a2], []⟩ ⟨.str r, [], []⟩
theorem F359 {C : CRel}  (a0 : Bool) (a1 : List UInt8) (a2 : List UInt8) (r : (List UInt8)) (h0 : g359 a0 a1 a2 = some r) : FnOK C c359 ⟨[.bool a0, .str a1, .str a2], []⟩ ⟨.str r, [], []⟩ := by
 refine fn_ (nl rfl) (seq_ (reg_ (st (mvc_ tv (oe_ (wk_ ⟨[(0, .bool a0), (1, .str a1), (2, .str a2)], [], []⟩ (fgk (by kernel_rfl)) (seq_ (seq_ (reg_ (st (mv_ rfl tv (oe_ (wk_ ⟨[(1, .str a1), (2, .str a2), (7, .bool a0)], [], []⟩ (fgk (by kernel_rfl)) (ite_ (cb := a0) rfl (fun c1 => ?_) (fun c1 => ?_)))))))))))))))
 ·replace h0 := ip c1 h0
  refine seq_ (reg_ (st (mv_ rfl tv (st (mv_ rfl tv (oe_ (wk_ ⟨[(6, .str a1)], [], []⟩ (fgk (by kernel_rfl)) ?_)))))))
  obtain rfl := Option.some.inj h0
  exact rt_ (ret_ rfl rfl rfl rfl rfl tv)
 ·replace h0 := inb c1 h0
  refine sk_ (wk_ ⟨[(2, .str a2)], [], []⟩ (fgk (by kernel_rfl)) (seq_ (reg_ (st (mv_ rfl tv (st (mv_ rfl tv (oe_ (wk_ ⟨[(6, .str a2)], [], []⟩ (fgk (by kernel_rfl)) ?_)))))))))
  obtain rfl := Option.some.inj h0
  exact rt_ (ret_ rfl rfl rfl rfl rfl tv)

/- (loop.example/g00149/impl.Vault).pairs -/
def c313_r0 : List Ins := [⟨some 1, .box (.t 0), none⟩,
⟨some 2, .nilS 2, none⟩]
def c313_r1 : List Ins := [⟨some 3, .nilS 2, none⟩]
def c313_r2 : List Ins := [(iQ 8 (.fieldA (.t 1) 3)),
(iQ 9 (.load (.t 8) 1 false)),
(iQ 10 (.len (.t 9))),
⟨some 11, .p (.mv (.c (iV 0))), none⟩]
def c313_r3 : List Ins := [(iQ 12 (.bin .lss (.t 11) (.t 10)))]
def c313_r4 : List Ins := [(iQ 13 (.idxA (.t 9) (.t 11) 2)),
(iQ 14 (.load (.t 13) 2 true)),
⟨some 5, .alloc [(iV 0), (.bool false)], none⟩,
⟨none, .store (.t 5) (.t 14) 2, none⟩]
def c313_r5 : DP := (.take (iQ 15 (.mv (.t 3)))
(.take (iQ 16 (.fieldA (.t 5) 0))
(.take (iQ 17 (.load (.t 16) 1 false))
(.take (iQ 20 (.fieldA (.t 5) 1))
(.take (iQ 21 (.load (.t 20) 1 false))
(.alt [(iQ 21 (.load (.t 20) 1 false)), (iQ 20 (.fieldA (.t 5) 1)), (iQ 15 (.mv (.t 3)))] ⟨some 18, .call 358 [(.t 17)], none⟩
(.take ⟨some 19, .p (.bin .add (.c (.str [105, 110, 116, 101, 110, 116, 47])) (.t 18)), none⟩
(.alt [⟨some 19, .p (.bin .add (.c (.str [105, 110, 116, 101, 110, 116, 47])) (.t 18)), none⟩, (iQ 15 (.mv (.t 3)))] ⟨some 22, .call 359 [(.t 21), (.c (.str [117, 110, 100, 111])), (.c (.str [98, 101, 103, 117, 110]))], none⟩
(.take ⟨some 23, .p (.build [(.str []), (.str [])] [(0, 1, (.t 19)), (1, 1, (.t 22))]), none⟩
(.alt [(iQ 15 (.mv (.t 3)))] ⟨some 24, .mkS 2 [(.str []), (.str [])] 1 [(0, (.t 23))], none⟩
(.alt [] ⟨some 25, .app 2 32 (.t 15) (.t 24), none⟩
(.alt [] (iQ 3 (.mv (.t 25)))
.fin
.stop)
.stop)
.stop))
.stop))
.stop))))))
def c313_r6 : List Ins := [⟨some 26, .p (.bin .add (.t 11) (.c (iV 1))), none⟩,
(iQ 11 (.mv (.t 26)))]
def c313_l0 : IR := (.seq (.reg c313_r3) (.seq (.ite (.t 12) .skip (.exit 0)) (.seq (.block 1 (.seq (.reg c313_r4) (.draw c313_r5))) (.reg c313_r6))))
def c313_r7 : List Ins := [(iQ 27 (.fieldA (.t 1) 0)),
(iQ 28 (.fieldA (.t 27) 2)),
(iQ 29 (.load (.t 28) 1 false)),
(iQ 30 (.len (.t 29))),
⟨some 31, .p (.mv (.c (iV 0))), none⟩]
def c313_r8 : List Ins := [(iQ 32 (.bin .lss (.t 31) (.t 30)))]
def c313_r9 : List Ins := [(iQ 33 (.idxA (.t 29) (.t 31) 4)),
(iQ 34 (.load (.t 33) 4 true)),
⟨some 7, .alloc [(iV 0), (iV 0), (iV 0), (.bool false)], none⟩,
⟨none, .store (.t 7) (.t 34) 4, none⟩]
def c313_r10 : DP := (.take (iQ 35 (.mv (.t 3)))
(.take (iQ 36 (.fieldA (.t 7) 0))
(.take (iQ 37 (.load (.t 36) 1 false))
(.take (iQ 40 (.fieldA (.t 7) 1))
(.take (iQ 41 (.load (.t 40) 1 false))
(.take (iQ 43 (.fieldA (.t 7) 2))
(.take (iQ 44 (.load (.t 43) 1 false))
(.take (iQ 47 (.fieldA (.t 7) 3))
(.take (iQ 48 (.load (.t 47) 1 false))
(.alt [(iQ 48 (.load (.t 47) 1 false)), (iQ 47 (.fieldA (.t 7) 3)), (iQ 44 (.load (.t 43) 1 false)), (iQ 43 (.fieldA (.t 7) 2)), (iQ 41 (.load (.t 40) 1 false)), (iQ 40 (.fieldA (.t 7) 1)), (iQ 35 (.mv (.t 3)))] ⟨some 38, .call 358 [(.t 37)], none⟩
(.take ⟨some 39, .p (.bin .add (.c (.str [108, 101, 97, 115, 101, 47])) (.t 38)), none⟩
(.alt [⟨some 39, .p (.bin .add (.c (.str [108, 101, 97, 115, 101, 47])) (.t 38)), none⟩, (iQ 48 (.load (.t 47) 1 false)), (iQ 47 (.fieldA (.t 7) 3)), (iQ 44 (.load (.t 43) 1 false)), (iQ 43 (.fieldA (.t 7) 2)), (iQ 35 (.mv (.t 3)))] ⟨some 42, .call 358 [(.t 41)], none⟩
(.alt [⟨some 39, .p (.bin .add (.c (.str [108, 101, 97, 115, 101, 47])) (.t 38)), none⟩, (iQ 48 (.load (.t 47) 1 false)), (iQ 47 (.fieldA (.t 7) 3)), (iQ 35 (.mv (.t 3)))] ⟨some 45, .call 358 [(.t 44)], none⟩
(.take (iQ 46 (.bin .add (.t 42) (.t 45)))
(.alt [(iQ 46 (.bin .add (.t 42) (.t 45))), ⟨some 39, .p (.bin .add (.c (.str [108, 101, 97, 115, 101, 47])) (.t 38)), none⟩, (iQ 35 (.mv (.t 3)))] ⟨some 49, .call 359 [(.t 48), (.c (.str [113, 117, 101, 117, 101, 100])), (.c (.str [108, 105, 118, 101]))], none⟩
(.take (iQ 50 (.bin .add (.t 46) (.t 49)))
(.take ⟨some 51, .p (.build [(.str []), (.str [])] [(0, 1, (.t 39)), (1, 1, (.t 50))]), none⟩
(.alt [(iQ 35 (.mv (.t 3)))] ⟨some 52, .mkS 2 [(.str []), (.str [])] 1 [(0, (.t 51))], none⟩
(.alt [] ⟨some 53, .app 2 32 (.t 35) (.t 52), none⟩
(.alt [] (iQ 3 (.mv (.t 53)))
.fin
.stop)
.stop)
.stop)))
.stop))
.stop)
.stop))
.stop))))))))))
def c313_r11 : List Ins := [⟨some 54, .p (.bin .add (.t 31) (.c (iV 1))), none⟩,
(iQ 31 (.mv (.t 54)))]
def c313_l1 : IR := (.seq (.reg c313_r8) (.seq (.ite (.t 32) .skip (.exit 2)) (.seq (.block 3 (.seq (.reg c313_r9) (.draw c313_r10))) (.reg c313_r11))))
def c313_r12 : DP := (.take (iQ 55 (.mv (.t 3)))
(.take (iQ 56 (.fieldA (.t 1) 0))
(.take (iQ 57 (.fieldA (.t 56) 0))
(.take (iQ 58 (.load (.t 57) 1 false))
(.take (iQ 60 (.fieldA (.t 1) 0))
(.take (iQ 61 (.fieldA (.t 60) 1))
(.take (iQ 62 (.load (.t 61) 1 false))
(.take (iQ 65 (.fieldA (.t 1) 5))
(.take (iQ 66 (.load (.t 65) 1 false))
(.alt [(iQ 66 (.load (.t 65) 1 false)), (iQ 65 (.fieldA (.t 1) 5)), (iQ 62 (.load (.t 61) 1 false)), (iQ 61 (.fieldA (.t 60) 1)), (iQ 60 (.fieldA (.t 1) 0)), (iQ 55 (.mv (.t 3)))] ⟨some 59, .call 358 [(.t 58)], none⟩
(.alt [(iQ 66 (.load (.t 65) 1 false)), (iQ 65 (.fieldA (.t 1) 5)), (iQ 55 (.mv (.t 3)))] ⟨some 63, .call 358 [(.t 62)], none⟩
(.take (iQ 64 (.bin .add (.t 59) (.t 63)))
(.alt [(iQ 64 (.bin .add (.t 59) (.t 63))), (iQ 55 (.mv (.t 3)))] ⟨some 67, .call 359 [(.t 66), (.c (.str [115, 101, 97, 108, 101, 100])), (.c (.str [111, 112, 101, 110]))], none⟩
(.take (iQ 68 (.bin .add (.t 64) (.t 67)))
(.take ⟨some 69, .p (.build [(.str []), (.str [])] [(0, 1, (.c (.str [118, 97, 117, 108, 116]))), (1, 1, (.t 68))]), none⟩
(.alt [(iQ 55 (.mv (.t 3)))] ⟨some 70, .mkS 2 [(.str []), (.str [])] 1 [(0, (.t 69))], none⟩
(.alt [] ⟨some 71, .app 2 32 (.t 55) (.t 70), none⟩
(.take (iQ 2 (.mv (.t 71)))
.fin)
.stop)
.stop)))
.stop))
.stop)
.stop))))))))))
def c313 : XFn := { np := 1, nt := 72, res := [.t 2], body := (.seq (.reg c313_r0) (.seq (.reg c313_r1) (.seq (.seq (.reg c313_r2) (.block 0 (.loop c313_l0))) (.seq (.seq (.reg c313_r7) (.block 2 (.loop c313_l1))) (.seq (.draw c313_r12) .ret))))) }
def K313 (C : CRel) : Prop := ∀ (a0 : DVault) (r : (List DPair)), g313 a0 = some r → C 313 ⟨[.agg (eDVault a0)], []⟩ ⟨.own 0 0 2 (r.map eDPair), [], []⟩
theorem F313 {C : CRel} (H358 : K358 C) (H359 : K359 C) (a0 : DVault) (r : (List DPair)) (h0 : g313 a0 = some r) : FnOK C c313 ⟨[.agg (eDVault a0)], []⟩ ⟨.own 0 0 2 (r.map eDPair), [], []⟩ := by
 refine fn_ (nl rfl) (seq_ (reg_ (st (box_ rfl tv rfl (st (nilS_ (oe_ (wk_ ⟨[(1, .ptr 64 0)], [(64, [iV a0.table.clock, iV a0.table.next, .lst 4 (a0.table.list_.map eDLease), .lst 2 (a0.intents.map eDIntent), .lst 1 (a0.accounts.map eI), .bool a0.sealed])], []⟩ (fgk (by kernel_rfl)) (seq_ (reg_ (st (nilS_ (oe_ (wk_ ⟨[(1, .ptr 64 0), (3, .own 192 0 2 ([].map eDPair))], [(64, [iV a0.table.clock, iV a0.table.next, .lst 4 (a0.table.list_.map eDLease), .lst 2 (a0.intents.map eDIntent), .lst 1 (a0.accounts.map eI), .bool a0.sealed])], []⟩ (fgk (by kernel_rfl)) (seq_ (seq_ (reg_ (st (c_ (cp_ ⟨tv, tv⟩ rfl tv) (st (c_ (cp_ ⟨tv, tv⟩ rfl (nl rfl)) (st (c_ (clenL (e := eDIntent) (l0 := a0.intents) rfl rfl tv) (st (mvc_ tv (oe_ (wk_ ⟨[(1, .ptr 64 0), (3, .own 192 0 2 ([].map eDPair)), (9, .lst 2 (a0.intents.map eDIntent)), (10, iV (a0.intents.length : Int)), (11, iV 0)], [(64, [iV a0.table.clock, iV a0.table.next, .lst 4 (a0.table.list_.map eDLease), .lst 2 (a0.intents.map eDIntent), .lst 1 (a0.accounts.map eI), .bool a0.sealed])], []⟩ (fgk (by kernel_rfl)) (block_ ?_))))))))))))))))))))))))))))
 obtain ⟨r39, e40, h0⟩ := bnd h0
 refine loop_ (R := (fun S => ∃ p27 : List DPair, p27 = r39 ∧ S = ⟨[(1, .ptr 64 0), (3, .own 192 0 2 (p27.map eDPair))], [(64, [iV a0.table.clock, iV a0.table.next, .lst 4 (a0.table.list_.map eDLease), .lst 2 (a0.intents.map eDIntent), .lst 1 (a0.accounts.map eI), .bool a0.sealed])], []⟩)) (g313_l0 a0) (fun s S => match s with | (p12, p13) => S = ⟨[(1, .ptr 64 0), (3, .own 192 0 2 (p12.map eDPair)), (9, .lst 2 (a0.intents.map eDIntent)), (10, iV (a0.intents.length : Int)), (11, iV p13)], [(64, [iV a0.table.clock, iV a0.table.next, .lst 4 (a0.table.list_.map eDLease), .lst 2 (a0.intents.map eDIntent), .lst 1 (a0.accounts.map eI), .bool a0.sealed])], []⟩) e40 ⟨[(1, .ptr 64 0), (3, .own 192 0 2 ([].map eDPair)), (9, .lst 2 (a0.intents.map eDIntent)), (10, iV (a0.intents.length : Int)), (11, iV 0)], [(64, [iV a0.table.clock, iV a0.table.next, .lst 4 (a0.table.list_.map eDLease), .lst 2 (a0.intents.map eDIntent), .lst 1 (a0.accounts.map eI), .bool a0.sealed])], []⟩ (fgk (by kernel_rfl)) rfl 0 (fun _ => rfl) ?_ ?_
 ·rintro S _ hfg ⟨p27, rfl, rfl⟩
  refine wk_ ⟨[(1, .ptr 64 0), (3, .own 192 0 2 (p27.map eDPair))], [(64, [iV a0.table.clock, iV a0.table.next, .lst 4 (a0.table.list_.map eDLease), .lst 2 (a0.intents.map eDIntent), .lst 1 (a0.accounts.map eI), .bool a0.sealed])], []⟩ (fglk hfg (by kernel_rfl)) (seq_ (seq_ (reg_ (st (c_ (cp_ ⟨tv, tv⟩ rfl tv) (st (c_ (cp_ ⟨tv, tv⟩ rfl tv) (st (c_ (cp_ ⟨tv, tv⟩ rfl (nl rfl)) (st (c_ (clenL (e := eDLease) (l0 := a0.table.list_) rfl rfl tv) (st (mvc_ tv (oe_ (wk_ ⟨[(1, .ptr 64 0), (3, .own 192 0 2 (p27.map eDPair)), (29, .lst 4 (a0.table.list_.map eDLease)), (30, iV (a0.table.list_.length : Int)), (31, iV 0)], [(64, [iV a0.table.clock, iV a0.table.next, .lst 4 (a0.table.list_.map eDLease), .lst 2 (a0.intents.map eDIntent), .lst 1 (a0.accounts.map eI), .bool a0.sealed])], []⟩ (fgk (by kernel_rfl)) (block_ ?_))))))))))))))))
  obtain ⟨r97, e98, h0⟩ := bnd h0
  refine loop_ (R := (fun S => ∃ p79 : List DPair, p79 = r97 ∧ S = ⟨[(1, .ptr 64 0), (3, .own 192 0 2 (p79.map eDPair))], [(64, [iV a0.table.clock, iV a0.table.next, .lst 4 (a0.table.list_.map eDLease), .lst 2 (a0.intents.map eDIntent), .lst 1 (a0.accounts.map eI), .bool a0.sealed])], []⟩)) (g313_l1 a0) (fun s S => match s with | (p58, p59) => S = ⟨[(1, .ptr 64 0), (3, .own 192 0 2 (p58.map eDPair)), (29, .lst 4 (a0.table.list_.map eDLease)), (30, iV (a0.table.list_.length : Int)), (31, iV p59)], [(64, [iV a0.table.clock, iV a0.table.next, .lst 4 (a0.table.list_.map eDLease), .lst 2 (a0.intents.map eDIntent), .lst 1 (a0.accounts.map eI), .bool a0.sealed])], []⟩) e98 ⟨[(1, .ptr 64 0), (3, .own 192 0 2 (p27.map eDPair)), (29, .lst 4 (a0.table.list_.map eDLease)), (30, iV (a0.table.list_.length : Int)), (31, iV 0)], [(64, [iV a0.table.clock, iV a0.table.next, .lst 4 (a0.table.list_.map eDLease), .lst 2 (a0.intents.map eDIntent), .lst 1 (a0.accounts.map eI), .bool a0.sealed])], []⟩ (fgk (by kernel_rfl)) rfl 2 (fun _ => rfl) ?_ ?_
  ·rintro S _ hfg ⟨p79, rfl, rfl⟩
   refine wk_ ⟨[(1, .ptr 64 0), (3, .own 192 0 2 (p79.map eDPair))], [(64, [iV a0.table.clock, iV a0.table.next, .lst 4 (a0.table.list_.map eDLease), .lst 2 (a0.intents.map eDIntent), .lst 1 (a0.accounts.map eI), .bool a0.sealed])], []⟩ (fglk hfg (by kernel_rfl)) (seq_ ?_)
   obtain ⟨r99, e100, h0⟩ := bnd h0
   obtain ⟨r101, e102, h0⟩ := bnd h0
   obtain ⟨c103, h0⟩ := grd h0
   obtain ⟨r104, e105, h0⟩ := bnd h0
   obtain ⟨c106, h0⟩ := grd h0
   obtain ⟨c107, h0⟩ := grd h0
   refine draw_ (dtake tv (mv_ rfl tv (⟨tv, (dtake tv (c_ (cp_ ⟨tv, tv⟩ rfl tv) (⟨tv, (dtake tv (c_ (cp_ ⟨tv, tv⟩ rfl tv) (⟨tv, (dtake tv (c_ (cp_ ⟨tv, tv⟩ rfl (nl rfl)) (⟨tv, (dtake tv (c_ (cp_ ⟨tv, tv⟩ rfl tv) (⟨tv, (dtake tv (c_ (cp_ ⟨tv, tv⟩ rfl tv) (⟨tv, (dtake tv (c_ (cp_ ⟨tv, tv⟩ rfl (nl rfl)) (⟨tv, (dtake tv (c_ (cp_ ⟨tv, tv⟩ rfl tv) (⟨tv, (dtake tv (c_ (cp_ ⟨tv, tv⟩ rfl (nl rfl)) (⟨tv, (dalt (call0_ (r := .str r99) false (H358 a0.table.clock r99 e100) ⟨tv, tv⟩ rfl rfl (fun _ => rfl) (dkw ⟨[(1, .ptr 64 0), (3, .own 192 0 2 (p79.map eDPair)), (55, .own 192 0 2 (p79.map eDPair)), (59, .str r99), (60, .ptr 64 0), (61, .ptr 64 1), (62, iV a0.table.next), (65, .ptr 64 5), (66, .bool a0.sealed)], [(64, [iV a0.table.clock, iV a0.table.next, .lst 4 (a0.table.list_.map eDLease), .lst 2 (a0.intents.map eDIntent), .lst 1 (a0.accounts.map eI), .bool a0.sealed])], []⟩ (fgk (by kernel_rfl)) ⟨[], ⟨⟨.inl tv, (again1 (cp_ ⟨tv, tv⟩ rfl (nl rfl)) rfl)⟩, ⟨.inl tv, (again1 (cp_ ⟨tv, tv⟩ rfl tv) rfl)⟩, ⟨.inl tv, (again1 (cp_ ⟨tv, tv⟩ rfl (nl rfl)) rfl)⟩, ⟨.inl tv, (again1 (cp_ ⟨tv, tv⟩ rfl tv) rfl)⟩, ⟨.inl tv, (again1 (cp_ ⟨tv, tv⟩ rfl tv) rfl)⟩, ⟨.inl tv, (again1 (cmv (v := .own 192 0 2 (p79.map eDPair)) rfl tv) rfl)⟩, tv⟩, tv, (dalt (call0_ (r := .str r101) false (H358 a0.table.next r101 e102) ⟨tv, tv⟩ rfl rfl (fun _ => rfl) (dkw ⟨[(1, .ptr 64 0), (3, .own 192 0 2 (p79.map eDPair)), (55, .own 192 0 2 (p79.map eDPair)), (59, .str r99), (63, .str r101), (65, .ptr 64 5), (66, .bool a0.sealed)], [(64, [iV a0.table.clock, iV a0.table.next, .lst 4 (a0.table.list_.map eDLease), .lst 2 (a0.intents.map eDIntent), .lst 1 (a0.accounts.map eI), .bool a0.sealed])], []⟩ (fgk (by kernel_rfl)) ⟨[], ⟨⟨.inl tv, (again1 (cp_ ⟨tv, tv⟩ rfl (nl rfl)) rfl)⟩, ⟨.inl tv, (again1 (cp_ ⟨tv, tv⟩ rfl tv) rfl)⟩, ⟨.inl tv, (again1 (cmv (v := .own 192 0 2 (p79.map eDPair)) rfl tv) rfl)⟩, tv⟩, tv, (dtake tv (c_ (cp_ ⟨tv, tv, tv⟩ rfl c103) (⟨tv, (dalt (call0_ (r := .str r104) false (H359 a0.sealed ([115, 101, 97, 108, 101, 100] : List UInt8) ([111, 112, 101, 110] : List UInt8) r104 e105) ⟨tv, tv, tv, tv⟩ rfl rfl (fun _ => rfl) (dkw ⟨[(3, .own 192 0 2 (p79.map eDPair)), (55, .own 192 0 2 (p79.map eDPair)), (59, .str r99), (63, .str r101), (64, .str (r99 ++ r101)), (67, .str r104)], [], []⟩ (fgk (by kernel_rfl)) ⟨[], ⟨⟨.inl tv, (again1 (cp_ ⟨tv, tv, tv⟩ rfl c103) rfl)⟩, ⟨.inl tv, (again1 (cmv (v := .own 192 0 2 (p79.map eDPair)) rfl tv) rfl)⟩, tv⟩, tv, (dtake tv (c_ (cp_ ⟨tv, tv, tv⟩ rfl c106) (⟨tv, (dtake tv (c_ (v := .agg [.str ([118, 97, 117, 108, 116] : List UInt8), .str ((r99 ++ r101) ++ r104)]) (cp_ ⟨tv, tv, tv⟩ rfl ⟨⟨rfl, rfl, nl rfl⟩, ⟨rfl, rfl, nl rfl⟩, tv⟩) (⟨tv, ?_⟩)))⟩)))⟩)) dstop)⟩)))⟩)) dstop)⟩)) dstop)⟩)))⟩)))⟩)))⟩)))⟩)))⟩)))⟩)))⟩)))⟩)))
   refine dalt (mkS_ ⟨tv, tv⟩ ⟨⟨nl rfl, rfl, rfl⟩, tv⟩ (dk0 ⟨[], ⟨⟨.inl tv, (again1 (cmv (v := .own 192 0 2 (p79.map eDPair)) rfl tv) rfl)⟩, tv⟩, tv, (dalt (app_ (e := eDPair) (l0 := p79) (l1 := ([(DPair.mk ([118, 97, 117, 108, 116] : List UInt8) ((r99 ++ r101) ++ r104))] : List DPair)) rfl rfl tv rfl (by decide) c107 (dk0 ⟨[], tv, tv, (dtake tv (mv_ rfl tv (⟨tv, (dfin ?_)⟩)))⟩)) dstop)⟩)) dstop
   obtain ⟨v108, e109, h0⟩ := bl h0
   refine wk_ ⟨[(2, .own 192 0 2 (v108.map eDPair))], [], []⟩ (fgk (by subst e109; kernel_rfl)) ?_
   obtain rfl := Option.some.inj h0
   exact rt_ (ret_ rfl rfl rfl rfl rfl tv)
  ·rintro ⟨p58, p59⟩ o1 _ K1 rfl h1 hx1 hK1 hE1 hR1
   refine seq_ (reg_ (st (c_ (cp_ t3 rfl tv) (oe_ (wk_ ⟨[(1, .ptr 64 0), (3, .own 192 0 2 (p58.map eDPair)), (29, .lst 4 (a0.table.list_.map eDLease)), (30, iV (a0.table.list_.length : Int)), (31, iV p59), (32, .bool (decide (p59 < (a0.table.list_.length : Int))))], [(64, [iV a0.table.clock, iV a0.table.next, .lst 4 (a0.table.list_.map eDLease), .lst 2 (a0.intents.map eDIntent), .lst 1 (a0.accounts.map eI), .bool a0.sealed])], []⟩ (fgk (by kernel_rfl)) (seq_ (ite_ (cb := (decide (p59 < (a0.table.list_.length : Int)))) rfl (fun c80 => ?_) (fun c80 => ?_))))))))
   ·replace h1 := ip c80 h1
    refine sk_ (wk_ ⟨[(1, .ptr 64 0), (3, .own 192 0 2 (p58.map eDPair)), (29, .lst 4 (a0.table.list_.map eDLease)), (30, iV (a0.table.list_.length : Int)), (31, iV p59)], [(64, [iV a0.table.clock, iV a0.table.next, .lst 4 (a0.table.list_.map eDLease), .lst 2 (a0.intents.map eDIntent), .lst 1 (a0.accounts.map eI), .bool a0.sealed])], []⟩ (fgk (by kernel_rfl)) (seq_ (block_ (seq_ (reg_ ?_)))))
    obtain ⟨y81, e82, h1⟩ := bnd h1
    refine st (c_ (cidxL (e := eDLease) (y := y81) rfl rfl tv rfl rfl tv e82) (st (c_ (v := .agg (eDLease y81)) (cp_ ⟨tv, tv⟩ rfl (nl rfl)) (st (alloc_ (st (stp_ rfl rfl tv rfl rfl rfl (nl rfl) (oe_ (wk_ ⟨[(1, .ptr 64 0), (3, .own 192 0 2 (p58.map eDPair)), (7, .ptr 448 0), (29, .lst 4 (a0.table.list_.map eDLease)), (30, iV (a0.table.list_.length : Int)), (31, iV p59)], [(64, [iV a0.table.clock, iV a0.table.next, .lst 4 (a0.table.list_.map eDLease), .lst 2 (a0.intents.map eDIntent), .lst 1 (a0.accounts.map eI), .bool a0.sealed]), (448, [iV y81.id, iV y81.until_, iV y81.cap, .bool y81.queued])], []⟩ (fgk (by kernel_rfl)) ?_)))))))))
    obtain ⟨r83, e84, h1⟩ := bnd h1
    obtain ⟨c85, h1⟩ := grd h1
    obtain ⟨r86, e87, h1⟩ := bnd h1
    obtain ⟨r88, e89, h1⟩ := bnd h1
    obtain ⟨c90, h1⟩ := grd h1
    obtain ⟨r91, e92, h1⟩ := bnd h1
    obtain ⟨c93, h1⟩ := grd h1
    obtain ⟨c94, h1⟩ := grd h1
    refine draw_ (dtake tv (mv_ rfl tv (⟨tv, (dtake tv (c_ (cp_ ⟨tv, tv⟩ rfl tv) (⟨tv, (dtake tv (c_ (cp_ ⟨tv, tv⟩ rfl (nl rfl)) (⟨tv, (dtake tv (c_ (cp_ ⟨tv, tv⟩ rfl tv) (⟨tv, (dtake tv (c_ (cp_ ⟨tv, tv⟩ rfl (nl rfl)) (⟨tv, (dtake tv (c_ (cp_ ⟨tv, tv⟩ rfl tv) (⟨tv, (dtake tv (c_ (cp_ ⟨tv, tv⟩ rfl (nl rfl)) (⟨tv, (dtake tv (c_ (cp_ ⟨tv, tv⟩ rfl tv) (⟨tv, (dtake tv (c_ (cp_ ⟨tv, tv⟩ rfl (nl rfl)) (⟨tv, (dalt (call0_ (r := .str r83) false (H358 y81.id r83 e84) ⟨tv, tv⟩ rfl rfl (fun _ => rfl) (dkw ⟨[(1, .ptr 64 0), (3, .own 192 0 2 (p58.map eDPair)), (7, .ptr 448 0), (29, .lst 4 (a0.table.list_.map eDLease)), (30, iV (a0.table.list_.length : Int)), (31, iV p59), (35, .own 192 0 2 (p58.map eDPair)), (38, .str r83), (40, .ptr 448 1), (41, iV y81.until_), (43, .ptr 448 2), (44, iV y81.cap), (47, .ptr 448 3), (48, .bool y81.queued)], [(64, [iV a0.table.clock, iV a0.table.next, .lst 4 (a0.table.list_.map eDLease), .lst 2 (a0.intents.map eDIntent), .lst 1 (a0.accounts.map eI), .bool a0.sealed]), (448, [iV y81.id, iV y81.until_, iV y81.cap, .bool y81.queued])], []⟩ (fgk (by kernel_rfl)) ⟨[], ⟨⟨.inl tv, (again1 (cp_ ⟨tv, tv⟩ rfl (nl rfl)) rfl)⟩, ⟨.inl tv, (again1 (cp_ ⟨tv, tv⟩ rfl tv) rfl)⟩, ⟨.inl tv, (again1 (cp_ ⟨tv, tv⟩ rfl (nl rfl)) rfl)⟩, ⟨.inl tv, (again1 (cp_ ⟨tv, tv⟩ rfl tv) rfl)⟩, ⟨.inl tv, (again1 (cp_ ⟨tv, tv⟩ rfl (nl rfl)) rfl)⟩, ⟨.inl tv, (again1 (cp_ ⟨tv, tv⟩ rfl tv) rfl)⟩, ⟨.inl tv, (again1 (cmv (v := .own 192 0 2 (p58.map eDPair)) rfl tv) rfl)⟩, tv⟩, tv, (dtake tv (c_ (cp_ ⟨tv, tv, tv⟩ rfl c85) (⟨tv, (dalt (call0_ (r := .str r86) false (H358 y81.until_ r86 e87) ⟨tv, tv⟩ rfl rfl (fun _ => rfl) (dkw ⟨[(1, .ptr 64 0), (3, .own 192 0 2 (p58.map eDPair)), (7, .ptr 448 0), (29, .lst 4 (a0.table.list_.map eDLease)), (30, iV (a0.table.list_.length : Int)), (31, iV p59), (35, .own 192 0 2 (p58.map eDPair)), (38, .str r83), (39, .str (([108, 101, 97, 115, 101, 47] : List UInt8) ++ r83)), (42, .str r86), (43, .ptr 448 2), (44, iV y81.cap), (47, .ptr 448 3), (48, .bool y81.queued)], [(64, [iV a0.table.clock, iV a0.table.next, .lst 4 (a0.table.list_.map eDLease), .lst 2 (a0.intents.map eDIntent), .lst 1 (a0.accounts.map eI), .bool a0.sealed]), (448, [iV y81.id, iV y81.until_, iV y81.cap, .bool y81.queued])], []⟩ (fgk (by kernel_rfl)) ⟨[], ⟨⟨.inl tv, (again1 (cp_ ⟨tv, tv, tv⟩ rfl c85) rfl)⟩, ⟨.inl tv, (again1 (cp_ ⟨tv, tv⟩ rfl (nl rfl)) rfl)⟩, ⟨.inl tv, (again1 (cp_ ⟨tv, tv⟩ rfl tv) rfl)⟩, ⟨.inl tv, (again1 (cp_ ⟨tv, tv⟩ rfl (nl rfl)) rfl)⟩, ⟨.inl tv, (again1 (cp_ ⟨tv, tv⟩ rfl tv) rfl)⟩, ⟨.inl tv, (again1 (cmv (v := .own 192 0 2 (p58.map eDPair)) rfl tv) rfl)⟩, tv⟩, tv, (dalt (call0_ (r := .str r88) false (H358 y81.cap r88 e89) ⟨tv, tv⟩ rfl rfl (fun _ => rfl) (dkw ⟨[(1, .ptr 64 0), (3, .own 192 0 2 (p58.map eDPair)), (7, .ptr 448 0), (29, .lst 4 (a0.table.list_.map eDLease)), (30, iV (a0.table.list_.length : Int)), (31, iV p59), (35, .own 192 0 2 (p58.map eDPair)), (38, .str r83), (39, .str (([108, 101, 97, 115, 101, 47] : List UInt8) ++ r83)), (42, .str r86), (45, .str r88), (47, .ptr 448 3), (48, .bool y81.queued)], [(64, [iV a0.table.clock, iV a0.table.next, .lst 4 (a0.table.list_.map eDLease), .lst 2 (a0.intents.map eDIntent), .lst 1 (a0.accounts.map eI), .bool a0.sealed]), (448, [iV y81.id, iV y81.until_, iV y81.cap, .bool y81.queued])], []⟩ (fgk (by kernel_rfl)) ⟨[], ⟨⟨.inl tv, (again1 (cp_ ⟨tv, tv, tv⟩ rfl c85) rfl)⟩, ⟨.inl tv, (again1 (cp_ ⟨tv, tv⟩ rfl (nl rfl)) rfl)⟩, ⟨.inl tv, (again1 (cp_ ⟨tv, tv⟩ rfl tv) rfl)⟩, ⟨.inl tv, (again1 (cmv (v := .own 192 0 2 (p58.map eDPair)) rfl tv) rfl)⟩, tv⟩, tv, (dtake tv (c_ (cp_ ⟨tv, tv, tv⟩ rfl c90) (⟨tv, (dalt (call0_ (r := .str r91) false (H359 y81.queued ([113, 117, 101, 117, 101, 100] : List UInt8) ([108, 105, 118, 101] : List UInt8) r91 e92) ⟨tv, tv, tv, tv⟩ rfl rfl (fun _ => rfl) (dkw ⟨[(1, .ptr 64 0), (3, .own 192 0 2 (p58.map eDPair)), (29, .lst 4 (a0.table.list_.map eDLease)), (30, iV (a0.table.list_.length : Int)), (31, iV p59), (35, .own 192 0 2 (p58.map eDPair)), (38, .str r83), (39, .str (([108, 101, 97, 115, 101, 47] : List UInt8) ++ r83)), (42, .str r86), (45, .str r88), (46, .str (r86 ++ r88)), (49, .str r91)], [(64, [iV a0.table.clock, iV a0.table.next, .lst 4 (a0.table.list_.map eDLease), .lst 2 (a0.intents.map eDIntent), .lst 1 (a0.accounts.map eI), .bool a0.sealed])], []⟩ (fgk (by kernel_rfl)) ⟨[], ⟨⟨.inl tv, (again1 (cp_ ⟨tv, tv, tv⟩ rfl c90) rfl)⟩, ⟨.inl tv, (again1 (cp_ ⟨tv, tv, tv⟩ rfl c85) rfl)⟩, ⟨.inl tv, (again1 (cmv (v := .own 192 0 2 (p58.map eDPair)) rfl tv) rfl)⟩, tv⟩, tv, ?_⟩)) dstop)⟩)))⟩)) dstop)⟩)) dstop)⟩)))⟩)) dstop)⟩)))⟩)))⟩)))⟩)))⟩)))⟩)))⟩)))⟩)))⟩)))
    refine dtake tv (c_ (cp_ ⟨tv, tv, tv⟩ rfl c93) (⟨tv, (dtake tv (c_ (v := .agg [.str (([108, 101, 97, 115, 101, 47] : List UInt8) ++ r83), .str ((r86 ++ r88) ++ r91)]) (cp_ ⟨tv, tv, tv⟩ rfl ⟨⟨rfl, rfl, nl rfl⟩, ⟨rfl, rfl, nl rfl⟩, tv⟩) (⟨tv, (dalt (mkS_ ⟨tv, tv⟩ ⟨⟨nl rfl, rfl, rfl⟩, tv⟩ (dk0 ⟨[], ⟨⟨.inl tv, (again1 (cmv (v := .own 192 0 2 (p58.map eDPair)) rfl tv) rfl)⟩, tv⟩, tv, (dalt (app_ (e := eDPair) (l0 := p58) (l1 := ([(DPair.mk (([108, 101, 97, 115, 101, 47] : List UInt8) ++ r83) ((r86 ++ r88) ++ r91))] : List DPair)) rfl rfl tv rfl (by decide) c94 (dk0 ⟨[], tv, tv, (dalt (mv_ rfl tv (dk0 ⟨[], tv, tv, (dfin (bn_ ?_))⟩)) dstop)⟩)) dstop)⟩)) dstop)⟩)))⟩))
    obtain ⟨v95, e96, h1⟩ := bl h1
    refine wk_ ⟨[(1, .ptr 64 0), (3, .own 192 0 2 (v95.map eDPair)), (29, .lst 4 (a0.table.list_.map eDLease)), (30, iV (a0.table.list_.length : Int)), (31, iV p59)], [(64, [iV a0.table.clock, iV a0.table.next, .lst 4 (a0.table.list_.map eDLease), .lst 2 (a0.intents.map eDIntent), .lst 1 (a0.accounts.map eI), .bool a0.sealed])], []⟩ (fgk (by subst e96; kernel_rfl)) (reg_ (st (c_ (cp_ t3 rfl tv) (st (mv_ rfl tv (oe_ ?_))))))
    obtain rfl := Option.some.inj h1
    exact hK1 _ rfl _ ⟨[(1, .ptr 64 0), (3, .own 192 0 2 (v95.map eDPair)), (29, .lst 4 (a0.table.list_.map eDLease)), (30, iV (a0.table.list_.length : Int)), (31, iV (IntKind.i64.wrap (p59 + 1)))], [(64, [iV a0.table.clock, iV a0.table.next, .lst 4 (a0.table.list_.map eDLease), .lst 2 (a0.intents.map eDIntent), .lst 1 (a0.accounts.map eI), .bool a0.sealed])], []⟩ (fgk (by kernel_rfl)) rfl
   ·replace h1 := inb c80 h1
    obtain rfl := Option.some.inj h1
    obtain rfl := hx1 _ rfl
    refine exQ rfl ?_
    exact hE1 _ ⟨[(1, .ptr 64 0), (3, .own 192 0 2 (p58.map eDPair))], [(64, [iV a0.table.clock, iV a0.table.next, .lst 4 (a0.table.list_.map eDLease), .lst 2 (a0.intents.map eDIntent), .lst 1 (a0.accounts.map eI), .bool a0.sealed])], []⟩ (fgk (by kernel_rfl)) ⟨_, rfl, rfl⟩
 ·rintro ⟨p12, p13⟩ o1 _ K1 rfl h1 hx1 hK1 hE1 hR1
  refine seq_ (reg_ (st (c_ (cp_ t3 rfl tv) (oe_ (wk_ ⟨[(1, .ptr 64 0), (3, .own 192 0 2 (p12.map eDPair)), (9, .lst 2 (a0.intents.map eDIntent)), (10, iV (a0.intents.length : Int)), (11, iV p13), (12, .bool (decide (p13 < (a0.intents.length : Int))))], [(64, [iV a0.table.clock, iV a0.table.next, .lst 4 (a0.table.list_.map eDLease), .lst 2 (a0.intents.map eDIntent), .lst 1 (a0.accounts.map eI), .bool a0.sealed])], []⟩ (fgk (by kernel_rfl)) (seq_ (ite_ (cb := (decide (p13 < (a0.intents.length : Int)))) rfl (fun c28 => ?_) (fun c28 => ?_))))))))
  ·replace h1 := ip c28 h1
   refine sk_ (wk_ ⟨[(1, .ptr 64 0), (3, .own 192 0 2 (p12.map eDPair)), (9, .lst 2 (a0.intents.map eDIntent)), (10, iV (a0.intents.length : Int)), (11, iV p13)], [(64, [iV a0.table.clock, iV a0.table.next, .lst 4 (a0.table.list_.map eDLease), .lst 2 (a0.intents.map eDIntent), .lst 1 (a0.accounts.map eI), .bool a0.sealed])], []⟩ (fgk (by kernel_rfl)) (seq_ (block_ (seq_ (reg_ ?_)))))
   obtain ⟨y29, e30, h1⟩ := bnd h1
   refine st (c_ (cidxL (e := eDIntent) (y := y29) rfl rfl tv rfl rfl tv e30) (st (c_ (v := .agg (eDIntent y29)) (cp_ ⟨tv, tv⟩ rfl (nl rfl)) (st (alloc_ (st (stp_ rfl rfl tv rfl rfl rfl (nl rfl) (oe_ (wk_ ⟨[(1, .ptr 64 0), (3, .own 192 0 2 (p12.map eDPair)), (5, .ptr 320 0), (9, .lst 2 (a0.intents.map eDIntent)), (10, iV (a0.intents.length : Int)), (11, iV p13)], [(64, [iV a0.table.clock, iV a0.table.next, .lst 4 (a0.table.list_.map eDLease), .lst 2 (a0.intents.map eDIntent), .lst 1 (a0.accounts.map eI), .bool a0.sealed]), (320, [iV y29.lease, .bool y29.undo])], []⟩ (fgk (by kernel_rfl)) ?_)))))))))
   obtain ⟨r31, e32, h1⟩ := bnd h1
   obtain ⟨c33, h1⟩ := grd h1
   obtain ⟨r34, e35, h1⟩ := bnd h1
   obtain ⟨c36, h1⟩ := grd h1
   refine draw_ (dtake tv (mv_ rfl tv (⟨tv, (dtake tv (c_ (cp_ ⟨tv, tv⟩ rfl tv) (⟨tv, (dtake tv (c_ (cp_ ⟨tv, tv⟩ rfl (nl rfl)) (⟨tv, (dtake tv (c_ (cp_ ⟨tv, tv⟩ rfl tv) (⟨tv, (dtake tv (c_ (cp_ ⟨tv, tv⟩ rfl (nl rfl)) (⟨tv, (dalt (call0_ (r := .str r31) false (H358 y29.lease r31 e32) ⟨tv, tv⟩ rfl rfl (fun _ => rfl) (dkw ⟨[(1, .ptr 64 0), (3, .own 192 0 2 (p12.map eDPair)), (5, .ptr 320 0), (9, .lst 2 (a0.intents.map eDIntent)), (10, iV (a0.intents.length : Int)), (11, iV p13), (15, .own 192 0 2 (p12.map eDPair)), (18, .str r31), (20, .ptr 320 1), (21, .bool y29.undo)], [(64, [iV a0.table.clock, iV a0.table.next, .lst 4 (a0.table.list_.map eDLease), .lst 2 (a0.intents.map eDIntent), .lst 1 (a0.accounts.map eI), .bool a0.sealed]), (320, [iV y29.lease, .bool y29.undo])], []⟩ (fgk (by kernel_rfl)) ⟨[], ⟨⟨.inl tv, (again1 (cp_ ⟨tv, tv⟩ rfl (nl rfl)) rfl)⟩, ⟨.inl tv, (again1 (cp_ ⟨tv, tv⟩ rfl tv) rfl)⟩, ⟨.inl tv, (again1 (cmv (v := .own 192 0 2 (p12.map eDPair)) rfl tv) rfl)⟩, tv⟩, tv, (dtake tv (c_ (cp_ ⟨tv, tv, tv⟩ rfl c33) (⟨tv, (dalt (call0_ (r := .str r34) false (H359 y29.undo ([117, 110, 100, 111] : List UInt8) ([98, 101, 103, 117, 110] : List UInt8) r34 e35) ⟨tv, tv, tv, tv⟩ rfl rfl (fun _ => rfl) (dkw ⟨[(1, .ptr 64 0), (3, .own 192 0 2 (p12.map eDPair)), (9, .lst 2 (a0.intents.map eDIntent)), (10, iV (a0.intents.length : Int)), (11, iV p13), (15, .own 192 0 2 (p12.map eDPair)), (18, .str r31), (19, .str (([105, 110, 116, 101, 110, 116, 47] : List UInt8) ++ r31)), (22, .str r34)], [(64, [iV a0.table.clock, iV a0.table.next, .lst 4 (a0.table.list_.map eDLease), .lst 2 (a0.intents.map eDIntent), .lst 1 (a0.accounts.map eI), .bool a0.sealed])], []⟩ (fgk (by kernel_rfl)) ⟨[], ⟨⟨.inl tv, (again1 (cp_ ⟨tv, tv, tv⟩ rfl c33) rfl)⟩, ⟨.inl tv, (again1 (cmv (v := .own 192 0 2 (p12.map eDPair)) rfl tv) rfl)⟩, tv⟩, tv, (dtake tv (c_ (v := .agg [.str (([105, 110, 116, 101, 110, 116, 47] : List UInt8) ++ r31), .str r34]) (cp_ ⟨tv, tv, tv⟩ rfl ⟨⟨rfl, rfl, nl rfl⟩, ⟨rfl, rfl, nl rfl⟩, tv⟩) (⟨tv, (dalt (mkS_ ⟨tv, tv⟩ ⟨⟨nl rfl, rfl, rfl⟩, tv⟩ (dk0 ⟨[], ⟨⟨.inl tv, (again1 (cmv (v := .own 192 0 2 (p12.map eDPair)) rfl tv) rfl)⟩, tv⟩, tv, (dalt (app_ (e := eDPair) (l0 := p12) (l1 := ([(DPair.mk (([105, 110, 116, 101, 110, 116, 47] : List UInt8) ++ r31) r34)] : List DPair)) rfl rfl tv rfl (by decide) c36 (dk0 ⟨[], tv, tv, (dalt (mv_ rfl tv (dk0 ⟨[], tv, tv, (dfin (bn_ ?_))⟩)) dstop)⟩)) dstop)⟩)) dstop)⟩)))⟩)) dstop)⟩)))⟩)) dstop)⟩)))⟩)))⟩)))⟩)))⟩)))
   obtain ⟨v37, e38, h1⟩ := bl h1
   refine wk_ ⟨[(1, .ptr 64 0), (3, .own 192 0 2 (v37.map eDPair)), (9, .lst 2 (a0.intents.map eDIntent)), (10, iV (a0.intents.length : Int)), (11, iV p13)], [(64, [iV a0.table.clock, iV a0.table.next, .lst 4 (a0.table.list_.map eDLease), .lst 2 (a0.intents.map eDIntent), .lst 1 (a0.accounts.map eI), .bool a0.sealed])], []⟩ (fgk (by subst e38; kernel_rfl)) (reg_ (st (c_ (cp_ t3 rfl tv) (st (mv_ rfl tv (oe_ ?_))))))
   obtain rfl := Option.some.inj h1
   exact hK1 _ rfl _ ⟨[(1, .ptr 64 0), (3, .own 192 0 2 (v37.map eDPair)), (9, .lst 2 (a0.intents.map eDIntent)), (10, iV (a0.intents.length : Int)), (11, iV (IntKind.i64.wrap (p13 + 1)))], [(64, [iV a0.table.clock, iV a0.table.next, .lst 4 (a0.table.list_.map eDLease), .lst 2 (a0.intents.map eDIntent), .lst 1 (a0.accounts.map eI), .bool a0.sealed])], []⟩ (fgk (by kernel_rfl)) rfl
  ·replace h1 := inb c28 h1
   obtain rfl := Option.some.inj h1
   obtain rfl := hx1 _ rfl
   refine exQ rfl ?_
   exact hE1 _ ⟨[(1, .ptr 64 0), (3, .own 192 0 2 (p12.map eDPair))], [(64, [iV a0.table.clock, iV a0.table.next, .lst 4 (a0.table.list_.map eDLease), .lst 2 (a0.intents.map eDIntent), .lst 1 (a0.accounts.map eI), .bool a0.sealed])], []⟩ (fgk (by kernel_rfl)) ⟨_, rfl, rfl⟩

/- loop.example/g00149/impl.VaultPairs -/
def c250_r0 : List Ins := [⟨some 1, .box (.t 0), none⟩,
⟨some 2, .nilS 2, none⟩,
⟨some 3, .p (.mv (.c (iV 0))), none⟩]
def c250_r1 : List Ins := [(iQ 4 (.load (.t 1) 6 true)),
⟨some 5, .call 48 [(.t 4)], none⟩,
(iQ 6 (.un .not (.t 5)))]
def c250_r2 : List Ins := [⟨some 2, .nilS 2, none⟩,
⟨some 3, .p (.mv (.c (iV 1))), none⟩]
def c250_r3 : List Ins := [(iQ 7 (.load (.t 1) 6 true)),
⟨some 8, .call 313 [(.t 7)], none⟩,
(iQ 2 (.mv (.t 8))),
⟨some 3, .p (.mv (.c (iV 0))), none⟩]
def c250 : XFn := { np := 1, nt := 9, res := [.t 2, .t 3], body := (.seq (.reg c250_r0) (.seq (.seq (.reg c250_r1) (.ite (.t 6) (.seq (.reg c250_r2) .ret) .skip)) (.seq (.reg c250_r3) .ret))) }
def K250 (C : CRel) : Prop := ∀ (a0 : DVault) (r : (List DPair) × Int), g250 a0 = some r → C 250 ⟨[.agg (eDVault a0)], []⟩ ⟨.tup [.own 0 0 2 (r.1.map eDPair), iV r.2], [], []⟩
theorem F250 {C : CRel} (H48 : K48 C) (H313 : K313 C) (a0 : DVault) (r : (List DPair) × Int) (h0 : g250 a0 = some r) : FnOK C c250 ⟨[.agg (eDVault a0)], []⟩ ⟨.tup [.own 0 0 2 (r.1.map eDPair), iV r.2], [], []⟩ := by
 refine fn_ (nl rfl) (seq_ (reg_ (st (box_ rfl tv rfl (st (nilS_ (st (mvc_ tv (oe_ (wk_ ⟨[(1, .ptr 64 0)], [(64, [iV a0.table.clock, iV a0.table.next, .lst 4 (a0.table.list_.map eDLease), .lst 2 (a0.intents.map eDIntent), .lst 1 (a0.accounts.map eI), .bool a0.sealed])], []⟩ (fgk (by kernel_rfl)) (seq_ (seq_ (reg_ (st (c_ (v := .agg (eDVault a0)) (cp_ ⟨tv, tv⟩ rfl (nl rfl)) ?_)))))))))))))))
 obtain ⟨r1, e2, h0⟩ := bnd h0
 refine st (call0_ (r := .bool r1) false (H48 a0 r1 e2) ⟨tv, tv⟩ rfl rfl (fun _ => rfl) (st (c_ (cp_ ⟨tv, tv⟩ rfl tv) (oe_ (wk_ ⟨[(1, .ptr 64 0), (6, .bool (!r1))], [(64, [iV a0.table.clock, iV a0.table.next, .lst 4 (a0.table.list_.map eDLease), .lst 2 (a0.intents.map eDIntent), .lst 1 (a0.accounts.map eI), .bool a0.sealed])], []⟩ (fgk (by kernel_rfl)) (ite_ (cb := (!r1)) rfl (fun c3 => ?_) (fun c3 => ?_)))))))
 ·replace h0 := ip c3 h0
  refine seq_ (reg_ (st (nilS_ (st (mvc_ tv (oe_ (wk_ ⟨[(2, .own 128 0 2 ([].map eDPair)), (3, iV 1)], [], []⟩ (fgk (by kernel_rfl)) ?_)))))))
  obtain rfl := Option.some.inj h0
  exact rt_ (ret_ rfl rfl rfl rfl rfl tv)
 ·replace h0 := inb c3 h0
  refine sk_ (wk_ ⟨[(1, .ptr 64 0)], [(64, [iV a0.table.clock, iV a0.table.next, .lst 4 (a0.table.list_.map eDLease), .lst 2 (a0.intents.map eDIntent), .lst 1 (a0.accounts.map eI), .bool a0.sealed])], []⟩ (fgk (by kernel_rfl)) (seq_ (reg_ (st (c_ (v := .agg (eDVault a0)) (cp_ ⟨tv, tv⟩ rfl (nl rfl)) ?_)))))
  obtain ⟨r4, e5, h0⟩ := bnd h0
  refine st (call0_ (r := .own 0 0 2 (r4.map eDPair)) false (H313 a0 r4 e5) ⟨tv, tv⟩ rfl rfl (fun _ => (and_ (fl1 (fun _ => rfl)) rfl)) (st (mv_ rfl tv (st (mvc_ tv (oe_ (wk_ ⟨[(2, .own 512 0 2 (r4.map eDPair)), (3, iV 0)], [], []⟩ (fgk (by kernel_rfl)) ?_)))))))
  obtain rfl := Option.some.inj h0
  exact rt_ (ret_ rfl rfl rfl rfl rfl tv)

/- loop.example/g00149/laws.eqPair -/
def c314_r0 : List Ins := [⟨some 2, .box (.t 0), none⟩,
⟨some 3, .box (.t 1), none⟩,
⟨some 4, .p (.mv (.c (.bool false))), none⟩]
def c314_r1 : List Ins := [(iQ 5 (.fieldA (.t 2) 0)),
(iQ 6 (.load (.t 5) 1 false)),
(iQ 7 (.fieldA (.t 3) 0)),
(iQ 8 (.load (.t 7) 1 false)),
(iQ 9 (.bin .neq (.t 6) (.t 8)))]
def c314_r2 : List Ins := [⟨some 4, .p (.mv (.c (.bool false))), none⟩]
def c314_r3 : List Ins := [(iQ 10 (.fieldA (.t 2) 1)),
(iQ 11 (.load (.t 10) 1 false)),
(iQ 12 (.fieldA (.t 3) 1)),
(iQ 13 (.load (.t 12) 1 false)),
(iQ 14 (.bin .neq (.t 11) (.t 13)))]
def c314_r4 : List Ins := [⟨some 4, .p (.mv (.c (.bool false))), none⟩]
def c314_r5 : List Ins := [⟨some 4, .p (.mv (.c (.bool true))), none⟩]
def c314 : XFn := { np := 2, nt := 15, res := [.t 4], body := (.seq (.reg c314_r0) (.seq (.seq (.reg c314_r1) (.ite (.t 9) (.seq (.reg c314_r2) .ret) .skip)) (.seq (.seq (.reg c314_r3) (.ite (.t 14) (.seq (.reg c314_r4) .ret) .skip)) (.seq (.reg c314_r5) .ret)))) }
def K314 (C : CRel) : Prop := ∀ (a0 : DPair) (a1 : DPair) (r : Bool), g314 a0 a1 = some r → C 314 ⟨[.agg (eDPair a0), .agg (eDPair a1)], []⟩ ⟨.bool r, [], []⟩
theorem F314 {C : CRel}  (a0 : DPair) (a1 : DPair) (r : Bool) (h0 : g314 a0 a1 = some r) : FnOK C c314 ⟨[.agg (eDPair a0), .agg (eDPair a1)], []⟩ ⟨.bool r, [], []⟩ := by
 refine fn_ (nl rfl) (seq_ (reg_ (st (box_ rfl tv rfl (st (box_ rfl tv rfl (st (mvc_ tv (oe_ (wk_ ⟨[(2, .ptr 128 0), (3, .ptr 192 0)], [(128, [.str a0.key, .str a0.value]), (192, [.str a1.key, .str a1.value])], []⟩ (fgk (by kernel_rfl)) (seq_ (seq_ (reg_ (st (c_ (cp_ ⟨tv, tv⟩ rfl tv) (st (c_ (cp_ ⟨tv, tv⟩ rfl (nl rfl)) (st (c_ (cp_ ⟨tv, tv⟩ rfl tv) (st (c_ (cp_ ⟨tv, tv⟩ rfl (nl rfl)) (st (c_ (cp_ t3 rfl tv) (oe_ (wk_ ⟨[(2, .ptr 128 0), (3, .ptr 192 0), (9, .bool (!(a0.key == a1.key)))], [(128, [.str a0.key, .str a0.value]), (192, [.str a1.key, .str a1.value])], []⟩ (fgk (by kernel_rfl)) (ite_ (cb := (!(a0.key == a1.key))) rfl (fun c1 => ?_) (fun c1 => ?_)))))))))))))))))))))))))))
 ·replace h0 := ip c1 h0
  refine seq_ (reg_ (st (mvc_ tv (oe_ (wk_ ⟨[(4, .bool false)], [], []⟩ (fgk (by kernel_rfl)) ?_)))))
  obtain rfl := Option.some.inj h0
  exact rt_ (ret_ rfl rfl rfl rfl rfl tv)
 ·replace h0 := inb c1 h0
  refine sk_ (wk_ ⟨[(2, .ptr 128 0), (3, .ptr 192 0)], [(128, [.str a0.key, .str a0.value]), (192, [.str a1.key, .str a1.value])], []⟩ (fgk (by kernel_rfl)) (seq_ (seq_ (reg_ (st (c_ (cp_ ⟨tv, tv⟩ rfl tv) (st (c_ (cp_ ⟨tv, tv⟩ rfl (nl rfl)) (st (c_ (cp_ ⟨tv, tv⟩ rfl tv) (st (c_ (cp_ ⟨tv, tv⟩ rfl (nl rfl)) (st (c_ (cp_ t3 rfl tv) (oe_ (wk_ ⟨[(14, .bool (!(a0.value == a1.value)))], [], []⟩ (fgk (by kernel_rfl)) (ite_ (cb := (!(a0.value == a1.value))) rfl (fun c2 => ?_) (fun c2 => ?_))))))))))))))))))
  ·replace h0 := ip c2 h0
   refine seq_ (reg_ (st (mvc_ tv (oe_ (wk_ ⟨[(4, .bool false)], [], []⟩ (fgk (by kernel_rfl)) ?_)))))
   obtain rfl := Option.some.inj h0
   exact rt_ (ret_ rfl rfl rfl rfl rfl tv)
  ·replace h0 := inb c2 h0
   refine sk_ (wk_ ⟨[], [], []⟩ (fgk (by kernel_rfl)) (seq_ (reg_ (st (mvc_ tv (oe_ (wk_ ⟨[(4, .bool true)], [], []⟩ (fgk (by kernel_rfl)) ?_)))))))
   obtain rfl := Option.some.inj h0
   exact rt_ (ret_ rfl rfl rfl rfl rfl tv)

/- loop.example/g00149/laws.eqPairS -/
def c251_r0 : List Ins := [⟨some 4, .p (.mv (.c (.bool false))), none⟩]
def c251_r1 : List Ins := [(iQ 6 (.mv (.t 0))),
(iQ 7 (.len (.t 6))),
(iQ 8 (.mv (.t 1))),
(iQ 9 (.len (.t 8))),
(iQ 10 (.bin .neq (.t 7) (.t 9)))]
def c251_r2 : List Ins := [⟨some 4, .p (.mv (.c (.bool false))), none⟩]
def c251_r3 : List Ins := [⟨some 5, .p (.mv (.c (iV 0))), none⟩]
def c251_r4 : List Ins := [(iQ 11 (.mv (.t 5))),
(iQ 12 (.mv (.t 0))),
(iQ 13 (.len (.t 12))),
(iQ 14 (.bin .lss (.t 11) (.t 13)))]
def c251_r5 : DP := (.take (iQ 17 (.mv (.t 0)))
(.take (iQ 18 (.mv (.t 5)))
(.take (iQ 19 (.idxA (.t 17) (.t 18) 2))
(.take (iQ 20 (.load (.t 19) 2 true))
(.take (iQ 21 (.mv (.t 1)))
(.take (iQ 22 (.mv (.t 5)))
(.take (iQ 23 (.idxA (.t 21) (.t 22) 2))
(.take (iQ 24 (.load (.t 23) 2 true))
(.alt [] ⟨some 25, .call 314 [(.t 20), (.t 24)], none⟩
(.take (iQ 26 (.un .not (.t 25)))
.fin)
.stop)))))))))
def c251_r6 : List Ins := [⟨some 4, .p (.mv (.c (.bool false))), none⟩]
def c251_r7 : List Ins := [(iQ 15 (.mv (.t 5))),
⟨some 16, .p (.bin .add (.t 15) (.c (iV 1))), none⟩,
(iQ 5 (.mv (.t 16)))]
def c251_l0 : IR := (.seq (.seq (.reg c251_r4) (.ite (.t 14) .skip (.exit 0))) (.seq (.block 1 (.seq (.draw c251_r5) (.ite (.t 26) (.seq (.reg c251_r6) .ret) .skip))) (.reg c251_r7)))
def c251_r8 : List Ins := [⟨some 4, .p (.mv (.c (.bool true))), none⟩]
def c251 : XFn := { np := 2, nt := 27, res := [.t 4], body := (.seq (.reg c251_r0) (.seq (.seq (.reg c251_r1) (.ite (.t 10) (.seq (.reg c251_r2) .ret) .skip)) (.seq (.seq (.reg c251_r3) (.block 0 (.loop c251_l0))) (.seq (.reg c251_r8) .ret)))) }
def K251 (C : CRel) : Prop := ∀ (a0 : List DPair) (a1 : List DPair) (r : Bool), g251 a0 a1 = some r → C 251 ⟨[.lst 2 (a0.map eDPair), .lst 2 (a1.map eDPair)], []⟩ ⟨.bool r, [], []⟩
theorem F251 {C : CRel} (H314 : K314 C) (a0 : List DPair) (a1 : List DPair) (r : Bool) (h0 : g251 a0 a1 = some r) : FnOK C c251 ⟨[.lst 2 (a0.map eDPair), .lst 2 (a1.map eDPair)], []⟩ ⟨.bool r, [], []⟩ := by
 refine fn_ (nl rfl) (seq_ (reg_ (st (mvc_ tv (oe_ (wk_ ⟨[(0, .lst 2 (a0.map eDPair)), (1, .lst 2 (a1.map eDPair))], [], []⟩ (fgk (by kernel_rfl)) (seq_ (seq_ (reg_ (st (mv_ rfl tv (st (c_ (clenL (e := eDPair) (l0 := a0) rfl rfl tv) (st (mv_ rfl tv (st (c_ (clenL (e := eDPair) (l0 := a1) rfl rfl tv) (st (c_ (cp_ t3 rfl tv) (oe_ (wk_ ⟨[(0, .lst 2 (a0.map eDPair)), (1, .lst 2 (a1.map eDPair)), (10, .bool ((a0.length : Int) != (a1.length : Int)))], [], []⟩ (fgk (by kernel_rfl)) (ite_ (cb := ((a0.length : Int) != (a1.length : Int))) rfl (fun c1 => ?_) (fun c1 => ?_)))))))))))))))))))))))
 ·replace h0 := ip c1 h0
  refine seq_ (reg_ (st (mvc_ tv (oe_ (wk_ ⟨[(4, .bool false)], [], []⟩ (fgk (by kernel_rfl)) ?_)))))
  obtain rfl := Option.some.inj h0
  exact rt_ (ret_ rfl rfl rfl rfl rfl tv)
 ·replace h0 := inb c1 h0
  refine sk_ (wk_ ⟨[(0, .lst 2 (a0.map eDPair)), (1, .lst 2 (a1.map eDPair))], [], []⟩ (fgk (by kernel_rfl)) (seq_ (seq_ (reg_ (st (mvc_ tv (oe_ (wk_ ⟨[(0, .lst 2 (a0.map eDPair)), (1, .lst 2 (a1.map eDPair)), (5, iV 0)], [], []⟩ (fgk (by kernel_rfl)) (block_ ?_)))))))))
  obtain ⟨r28, e29, h0⟩ := bnd h0
  refine loop_ (R := (fun S => .inl () = r28 ∧ S = ⟨[], [], []⟩)) (g251_l0 a0 a1) (fun s S => match s with | p10 => S = ⟨[(0, .lst 2 (a0.map eDPair)), (1, .lst 2 (a1.map eDPair)), (5, iV p10)], [], []⟩) e29 ⟨[(0, .lst 2 (a0.map eDPair)), (1, .lst 2 (a1.map eDPair)), (5, iV 0)], [], []⟩ (fgk (by kernel_rfl)) rfl 0 (fun _ => rfl) ?_ ?_
  ·rintro S _ hfg ⟨rfl, rfl⟩
   refine wk_ ⟨[], [], []⟩ (fglk hfg (by kernel_rfl)) (seq_ (reg_ (st (mvc_ tv (oe_ (wk_ ⟨[(4, .bool true)], [], []⟩ (fgk (by kernel_rfl)) ?_))))))
   obtain rfl := Option.some.inj h0
   exact rt_ (ret_ rfl rfl rfl rfl rfl tv)
  ·rintro p10 o1 _ K1 rfl h1 hx1 hK1 hE1 hR1
   refine seq_ (seq_ (reg_ (st (mv_ rfl tv (st (mv_ rfl tv (st (c_ (clenL (e := eDPair) (l0 := a0) rfl rfl tv) (st (c_ (cp_ t3 rfl tv) (oe_ (wk_ ⟨[(0, .lst 2 (a0.map eDPair)), (1, .lst 2 (a1.map eDPair)), (5, iV p10), (14, .bool (decide (p10 < (a0.length : Int))))], [], []⟩ (fgk (by kernel_rfl)) (ite_ (cb := (decide (p10 < (a0.length : Int)))) rfl (fun c20 => ?_) (fun c20 => ?_))))))))))))))
   ·replace h1 := ip c20 h1
    refine sk_ (wk_ ⟨[(0, .lst 2 (a0.map eDPair)), (1, .lst 2 (a1.map eDPair)), (5, iV p10)], [], []⟩ (fgk (by kernel_rfl)) (seq_ (block_ (seq_ ?_))))
    obtain ⟨y21, e22, h1⟩ := bnd h1
    obtain ⟨y23, e24, h1⟩ := bnd h1
    obtain ⟨r25, e26, h1⟩ := bnd h1
    refine draw_ (dtake tv (mv_ rfl tv (⟨tv, (dtake tv (mv_ rfl tv (⟨tv, (dtake tv (c_ (cidxL (e := eDPair) (y := y21) rfl rfl tv rfl rfl tv e22) (⟨tv, (dtake tv (c_ (v := .agg (eDPair y21)) (cp_ ⟨tv, tv⟩ rfl (nl rfl)) (⟨tv, (dtake tv (mv_ rfl tv (⟨tv, (dtake tv (mv_ rfl tv (⟨tv, (dtake tv (c_ (cidxL (e := eDPair) (y := y23) rfl rfl tv rfl rfl tv e24) (⟨tv, (dtake tv (c_ (v := .agg (eDPair y23)) (cp_ ⟨tv, tv⟩ rfl (nl rfl)) (⟨tv, (dalt (call0_ (r := .bool r25) false (H314 y21 y23 r25 e26) ⟨tv, tv, tv⟩ rfl rfl (fun _ => rfl) (dkw ⟨[(0, .lst 2 (a0.map eDPair)), (1, .lst 2 (a1.map eDPair)), (5, iV p10), (25, .bool r25)], [], []⟩ (fgk (by kernel_rfl)) ⟨[], tv, tv, (dtake tv (c_ (cp_ ⟨tv, tv⟩ rfl tv) (⟨tv, (dfin (wk_ ⟨[(0, .lst 2 (a0.map eDPair)), (1, .lst 2 (a1.map eDPair)), (5, iV p10), (26, .bool (!r25))], [], []⟩ (fgk (by kernel_rfl)) (ite_ (cb := (!r25)) rfl (fun c27 => ?_) (fun c27 => ?_))))⟩)))⟩)) dstop)⟩)))⟩)))⟩)))⟩)))⟩)))⟩)))⟩)))⟩)))
    ·replace h1 := ip c27 h1
     refine seq_ (reg_ (st (mvc_ tv (oe_ (wk_ ⟨[(4, .bool false)], [], []⟩ (fgk (by kernel_rfl)) ?_)))))
     obtain rfl := Option.some.inj h1
     obtain rfl := hx1 _ rfl
     obtain rfl := Option.some.inj h0
     exact rt_ (hR1 _ (ret_ rfl rfl rfl rfl rfl tv))
    ·replace h1 := inb c27 h1
     refine sk_ (bn_ (wk_ ⟨[(0, .lst 2 (a0.map eDPair)), (1, .lst 2 (a1.map eDPair)), (5, iV p10)], [], []⟩ (fgk (by kernel_rfl)) (reg_ (st (mv_ rfl tv (st (c_ (cp_ t3 rfl tv) (st (mv_ rfl tv (oe_ ?_))))))))))
     obtain rfl := Option.some.inj h1
     exact hK1 _ rfl _ ⟨[(0, .lst 2 (a0.map eDPair)), (1, .lst 2 (a1.map eDPair)), (5, iV (IntKind.i64.wrap (p10 + 1)))], [], []⟩ (fgk (by kernel_rfl)) rfl
   ·replace h1 := inb c20 h1
    obtain rfl := Option.some.inj h1
    obtain rfl := hx1 _ rfl
    refine exQ rfl ?_
    exact hE1 _ ⟨[], [], []⟩ (fgk (by kernel_rfl)) ⟨rfl, rfl⟩

/- loop.example/g00149/laws.markLeaseS -/
def c72_r0 : List Ins := [⟨some 4, .p (.mv (.c (iV 0))), none⟩]
def c72_r1 : List Ins := [⟨some 5, .p (.mv (.c (iV 0))), none⟩]
def c72_r2 : List Ins := [(iQ 6 (.mv (.t 5))),
(iQ 7 (.mv (.t 0))),
(iQ 8 (.len (.t 7))),
(iQ 9 (.bin .lss (.t 6) (.t 8)))]
def c72_r3 : List Ins := [(iQ 12 (.mv (.t 0))),
(iQ 13 (.mv (.t 5))),
(iQ 14 (.mv (.t 1))),
(iQ 15 (.idxA (.t 12) (.t 13) 4)),
(iQ 16 (.fieldA (.t 15) 0)),
⟨none, .store (.t 16) (.t 14) 1, none⟩]
def c72_r4 : List Ins := [(iQ 17 (.mv (.t 1))),
⟨some 18, .p (.bin .add (.t 17) (.c (iV 1))), none⟩,
(iQ 1 (.mv (.t 18)))]
def c72_r5 : List Ins := [(iQ 19 (.mv (.t 0))),
(iQ 20 (.mv (.t 5))),
(iQ 21 (.mv (.t 1))),
(iQ 22 (.idxA (.t 19) (.t 20) 4)),
(iQ 23 (.fieldA (.t 22) 1)),
⟨none, .store (.t 23) (.t 21) 1, none⟩]
def c72_r6 : List Ins := [(iQ 24 (.mv (.t 1))),
⟨some 25, .p (.bin .add (.t 24) (.c (iV 1))), none⟩,
(iQ 1 (.mv (.t 25)))]
def c72_r7 : List Ins := [(iQ 26 (.mv (.t 0))),
(iQ 27 (.mv (.t 5))),
(iQ 28 (.mv (.t 1))),
(iQ 29 (.idxA (.t 26) (.t 27) 4)),
(iQ 30 (.fieldA (.t 29) 2)),
⟨none, .store (.t 30) (.t 28) 1, none⟩]
def c72_r8 : List Ins := [(iQ 31 (.mv (.t 1))),
⟨some 32, .p (.bin .add (.t 31) (.c (iV 1))), none⟩,
(iQ 1 (.mv (.t 32)))]
def c72_r9 : List Ins := [(iQ 33 (.mv (.t 0))),
(iQ 34 (.mv (.t 5))),
(iQ 35 (.mv (.t 1))),
⟨some 36, .p (.bin .rem (.t 35) (.c (iV 3))), none⟩,
⟨some 37, .p (.bin .eql (.t 36) (.c (iV 0))), none⟩,
(iQ 38 (.idxA (.t 33) (.t 34) 4)),
(iQ 39 (.fieldA (.t 38) 3)),
⟨none, .store (.t 39) (.t 37) 1, none⟩]
def c72_r10 : List Ins := [(iQ 40 (.mv (.t 1))),
⟨some 41, .p (.bin .add (.t 40) (.c (iV 1))), none⟩,
(iQ 1 (.mv (.t 41)))]
def c72_r11 : List Ins := [(iQ 10 (.mv (.t 5))),
⟨some 11, .p (.bin .add (.t 10) (.c (iV 1))), none⟩,
(iQ 5 (.mv (.t 11)))]
def c72_l0 : IR := (.seq (.seq (.reg c72_r2) (.ite (.t 9) .skip (.exit 0))) (.seq (.block 1 (.seq (.reg c72_r3) (.seq (.reg c72_r4) (.seq (.reg c72_r5) (.seq (.reg c72_r6) (.seq (.reg c72_r7) (.seq (.reg c72_r8) (.seq (.reg c72_r9) (.reg c72_r10))))))))) (.reg c72_r11)))
def c72_r12 : List Ins := [(iQ 42 (.mv (.t 1))),
(iQ 4 (.mv (.t 42)))]
def c72 : XFn := { np := 2, nt := 43, res := [.t 4], body := (.seq (.reg c72_r0) (.seq (.seq (.reg c72_r1) (.block 0 (.loop c72_l0))) (.seq (.reg c72_r12) .ret))) }
def K72 (C : CRel) : Prop := ∀ (a0 : List DLease) (a1 : Int) (r : Int × (List DLease)), g72 a0 a1 = some r → C 72 ⟨[.own 2097152 0 4 (a0.map eDLease), iV a1], []⟩ ⟨iV r.1, [], [(0, 4, r.2.map eDLease)]⟩
theorem F72 {C : CRel}  (a0 : List DLease) (a1 : Int) (r : Int × (List DLease)) (h0 : g72 a0 a1 = some r) : FnOK C c72 ⟨[.own 2097152 0 4 (a0.map eDLease), iV a1], []⟩ ⟨iV r.1, [], [(0, 4, r.2.map eDLease)]⟩ := by
 refine fn_ (nl rfl) (seq_ (reg_ (st (mvc_ tv (oe_ (wk_ ⟨[(0, .own 2097152 0 4 (a0.map eDLease)), (1, iV a1)], [], []⟩ (fgk (by kernel_rfl)) (seq_ (seq_ (reg_ (st (mvc_ tv (oe_ (wk_ ⟨[(0, .own 2097152 0 4 (a0.map eDLease)), (1, iV a1), (5, iV 0)], [], []⟩ (fgk (by kernel_rfl)) (block_ ?_))))))))))))))
 obtain ⟨r84, e85, h0⟩ := bnd h0
 refine loop_ (R := (fun S => ∃ p57 : List DLease, ∃ p58 : Int, (p57, p58) = r84 ∧ S = ⟨[(0, .own 2097152 0 4 (p57.map eDLease)), (1, iV p58)], [], []⟩)) (g72_l0) (fun s S => match s with | (p26, p27, p28) => S = ⟨[(0, .own 2097152 0 4 (p26.map eDLease)), (1, iV p27), (5, iV p28)], [], []⟩) e85 ⟨[(0, .own 2097152 0 4 (a0.map eDLease)), (1, iV a1), (5, iV 0)], [], []⟩ (fgk (by kernel_rfl)) rfl 0 (fun _ => rfl) ?_ ?_
 ·rintro S _ hfg ⟨p57, p58, rfl, rfl⟩
  refine wk_ ⟨[(0, .own 2097152 0 4 (p57.map eDLease)), (1, iV p58)], [], []⟩ (fglk hfg (by kernel_rfl)) (seq_ (reg_ (st (mv_ rfl tv (st (mv_ rfl tv (oe_ (wk_ ⟨[(0, .own 2097152 0 4 (p57.map eDLease)), (4, iV p58)], [], []⟩ (fgk (by kernel_rfl)) ?_))))))))
  obtain rfl := Option.some.inj h0
  exact rt_ (ret_ rfl rfl rfl rfl rfl ⟨⟨rfl, mlen (fun _ => rfl)⟩, tv⟩)
 ·rintro ⟨p26, p27, p28⟩ o1 _ K1 rfl h1 hx1 hK1 hE1 hR1
  refine seq_ (seq_ (reg_ (st (mv_ rfl tv (st (mv_ rfl tv (st (c_ (clenO (e := eDLease) (l0 := p26) rfl rfl tv) (st (c_ (cp_ t3 rfl tv) (oe_ (wk_ ⟨[(0, .own 2097152 0 4 (p26.map eDLease)), (1, iV p27), (5, iV p28), (9, .bool (decide (p28 < (p26.length : Int))))], [], []⟩ (fgk (by kernel_rfl)) (ite_ (cb := (decide (p28 < (p26.length : Int)))) rfl (fun c59 => ?_) (fun c59 => ?_))))))))))))))
  ·replace h1 := ip c59 h1
   refine sk_ (wk_ ⟨[(0, .own 2097152 0 4 (p26.map eDLease)), (1, iV p27), (5, iV p28)], [], []⟩ (fgk (by kernel_rfl)) (seq_ (block_ (seq_ (reg_ (st (mv_ rfl tv (st (mv_ rfl tv (st (mv_ rfl tv ?_)))))))))))
   obtain ⟨y60, e61, h1⟩ := bnd h1
   refine st (c_ (cidxO (e := eDLease) (y := y60) rfl rfl tv rfl rfl tv e61) (st (c_ (cp_ ⟨tv, tv⟩ rfl tv) ?_)))
   obtain ⟨y62, e63, h1⟩ := bnd h1
   refine st (sto_ (y' := (DLease.mk p27 y62.until_ y62.cap y62.queued)) rfl rfl tv rfl rfl rfl rfl e63 (nl rfl) rfl rfl rfl rfl (oe_ (wk_ ⟨[(0, .own 2097152 0 4 ((p26.set p28.toNat (DLease.mk p27 y62.until_ y62.cap y62.queued)).map eDLease)), (1, iV p27), (5, iV p28)], [], []⟩ (fg ⟨(congrArg (fun z => some ((.own 2097152 0 4 z : V))) overlay_map), rfl, rfl, tv⟩ tv) (seq_ (reg_ (st (mv_ rfl tv (st (c_ (cp_ t3 rfl tv) (st (mv_ rfl tv (oe_ (wk_ ⟨[(0, .own 2097152 0 4 ((p26.set p28.toNat (DLease.mk p27 y62.until_ y62.cap y62.queued)).map eDLease)), (1, iV (IntKind.i64.wrap (p27 + 1))), (5, iV p28)], [], []⟩ (fgk (by kernel_rfl)) (seq_ (reg_ (st (mv_ rfl tv (st (mv_ rfl tv (st (mv_ rfl tv ?_)))))))))))))))))))))
   obtain ⟨y64, e65, h1⟩ := bnd h1
   refine st (c_ (cidxO (e := eDLease) (y := y64) rfl rfl tv rfl rfl tv e65) (st (c_ (cp_ ⟨tv, tv⟩ rfl tv) ?_)))
   obtain ⟨y66, e67, h1⟩ := bnd h1
   refine st (sto_ (y' := (DLease.mk y66.id (IntKind.i64.wrap (p27 + 1)) y66.cap y66.queued)) rfl rfl tv rfl rfl rfl rfl e67 (nl rfl) rfl rfl rfl rfl (oe_ (wk_ ⟨[(0, .own 2097152 0 4 (((p26.set p28.toNat (DLease.mk p27 y62.until_ y62.cap y62.queued)).set p28.toNat (DLease.mk y66.id (IntKind.i64.wrap (p27 + 1)) y66.cap y66.queued)).map eDLease)), (1, iV (IntKind.i64.wrap (p27 + 1))), (5, iV p28)], [], []⟩ (fg ⟨(congrArg (fun z => some ((.own 2097152 0 4 z : V))) overlay_map), rfl, rfl, tv⟩ tv) (seq_ (reg_ (st (mv_ rfl tv (st (c_ (cp_ t3 rfl tv) (st (mv_ rfl tv (oe_ ?_))))))))))))
   obtain ⟨v68, e69, h1⟩ := bl h1
   refine wk_ ⟨[(0, .own 2097152 0 4 (v68.map eDLease)), (1, iV (IntKind.i64.wrap ((IntKind.i64.wrap (p27 + 1)) + 1))), (5, iV p28)], [], []⟩ (fgk (by subst e69; kernel_rfl)) (seq_ (reg_ (st (mv_ rfl tv (st (mv_ rfl tv (st (mv_ rfl tv ?_))))))))
   obtain ⟨y70, e71, h1⟩ := bnd h1
   refine st (c_ (cidxO (e := eDLease) (y := y70) rfl rfl tv rfl rfl tv e71) (st (c_ (cp_ ⟨tv, tv⟩ rfl tv) ?_)))
   obtain ⟨y72, e73, h1⟩ := bnd h1
   refine st (sto_ (y' := (DLease.mk y72.id y72.until_ (IntKind.i64.wrap ((IntKind.i64.wrap (p27 + 1)) + 1)) y72.queued)) rfl rfl tv rfl rfl rfl rfl e73 (nl rfl) rfl rfl rfl rfl (oe_ (wk_ ⟨[(0, .own 2097152 0 4 ((v68.set p28.toNat (DLease.mk y72.id y72.until_ (IntKind.i64.wrap ((IntKind.i64.wrap (p27 + 1)) + 1)) y72.queued)).map eDLease)), (1, iV (IntKind.i64.wrap ((IntKind.i64.wrap (p27 + 1)) + 1))), (5, iV p28)], [], []⟩ (fg ⟨(congrArg (fun z => some ((.own 2097152 0 4 z : V))) overlay_map), rfl, rfl, tv⟩ tv) (seq_ (reg_ (st (mv_ rfl tv (st (c_ (cp_ t3 rfl tv) (st (mv_ rfl tv (oe_ ?_))))))))))))
   obtain ⟨v74, e75, h1⟩ := bl h1
   obtain ⟨v76, e77, h1⟩ := bl h1
   refine wk_ ⟨[(0, .own 2097152 0 4 (v74.map eDLease)), (1, iV v76), (5, iV p28)], [], []⟩ (fgk (by subst e75 e77; kernel_rfl)) (seq_ (reg_ (st (mv_ rfl tv (st (mv_ rfl tv (st (mv_ rfl tv (st (c_ (cp_ ⟨tv, tv, tv⟩ rfl (by decide)) (st (c_ (cp_ t3 rfl tv) ?_))))))))))))
   obtain ⟨y78, e79, h1⟩ := bnd h1
   refine st (c_ (cidxO (e := eDLease) (y := y78) rfl rfl tv rfl rfl tv e79) (st (c_ (cp_ ⟨tv, tv⟩ rfl tv) ?_)))
   obtain ⟨y80, e81, h1⟩ := bnd h1
   refine st (sto_ (y' := (DLease.mk y80.id y80.until_ y80.cap (((v76).tmod 3) == 0))) rfl rfl tv rfl rfl rfl rfl e81 (nl rfl) rfl rfl rfl rfl (oe_ (wk_ ⟨[(0, .own 2097152 0 4 ((v74.set p28.toNat (DLease.mk y80.id y80.until_ y80.cap (((v76).tmod 3) == 0))).map eDLease)), (1, iV v76), (5, iV p28)], [], []⟩ (fg ⟨(congrArg (fun z => some ((.own 2097152 0 4 z : V))) overlay_map), rfl, rfl, tv⟩ tv) (reg_ (st (mv_ rfl tv (st (c_ (cp_ t3 rfl tv) (st (mv_ rfl tv (oe_ (bn_ ?_))))))))))))
   obtain ⟨v82, e83, h1⟩ := bl h1
   refine wk_ ⟨[(0, .own 2097152 0 4 (v82.map eDLease)), (1, iV (IntKind.i64.wrap (v76 + 1))), (5, iV p28)], [], []⟩ (fgk (by subst e83; kernel_rfl)) (reg_ (st (mv_ rfl tv (st (c_ (cp_ t3 rfl tv) (st (mv_ rfl tv (oe_ ?_))))))))
   obtain rfl := Option.some.inj h1
   exact hK1 _ rfl _ ⟨[(0, .own 2097152 0 4 (v82.map eDLease)), (1, iV (IntKind.i64.wrap (v76 + 1))), (5, iV (IntKind.i64.wrap (p28 + 1)))], [], []⟩ (fgk (by kernel_rfl)) rfl
  ·replace h1 := inb c59 h1
   obtain rfl := Option.some.inj h1
   obtain rfl := hx1 _ rfl
   refine exQ rfl ?_
   exact hE1 _ ⟨[(0, .own 2097152 0 4 (p26.map eDLease)), (1, iV p27)], [], []⟩ (fgk (by kernel_rfl)) ⟨_, _, rfl, rfl⟩

/- loop.example/g00149/laws.markTable -/
def c26_r0 : List Ins := [⟨some 2, .box (.t 0), none⟩,
⟨some 4, .p (.mv (.c (iV 0))), none⟩]
def c26_r1 : List Ins := [(iQ 5 (.fieldA (.t 2) 2)),
(iQ 6 (.load (.t 5) 1 false)),
(iQ 7 (.mv (.t 1))),
⟨some 8, .call 72 [(.t 6), (.t 7)], none⟩,
(iQ 1 (.mv (.t 8)))]
def c26_r2 : List Ins := [(iQ 9 (.mv (.t 1))),
(iQ 4 (.mv (.t 9)))]
def c26 : XFn := { np := 2, nt := 10, res := [.t 4], body := (.seq (.reg c26_r0) (.seq (.reg c26_r1) (.seq (.reg c26_r2) .ret))) }
def K26 (C : CRel) : Prop := ∀ (a0 : DTable) (a1 : Int) (r : Int × (List DLease)), g26 a0 a1 = some r → C 26 ⟨[.agg [iV a0.clock, iV a0.next, .own 2097152 0 4 (a0.list_.map eDLease)], iV a1], []⟩ ⟨iV r.1, [], [(0, 4, r.2.map eDLease)]⟩
theorem F26 {C : CRel} (H72 : K72 C) (a0 : DTable) (a1 : Int) (r : Int × (List DLease)) (h0 : g26 a0 a1 = some r) : FnOK C c26 ⟨[.agg [iV a0.clock, iV a0.next, .own 2097152 0 4 (a0.list_.map eDLease)], iV a1], []⟩ ⟨iV r.1, [], [(0, 4, r.2.map eDLease)]⟩ := by
 refine fn_ (nl rfl) (seq_ (reg_ (st (box_ rfl tv rfl (st (mvc_ tv (oe_ (wk_ ⟨[(0, .agg [iV a0.clock, iV a0.next, .own 2097152 0 4 (a0.list_.map eDLease)]), (1, iV a1), (2, .ptr 128 0)], [(128, [iV a0.clock, iV a0.next, .own 2097152 0 4 (a0.list_.map eDLease)])], []⟩ (fgk (by kernel_rfl)) (seq_ (reg_ (st (c_ (cp_ ⟨tv, tv⟩ rfl tv) (st (c_ (cp_ ⟨tv, tv⟩ rfl (nl rfl)) (st (mv_ rfl tv ?_))))))))))))))))
 obtain ⟨r1, e2, h0⟩ := bnd h0
 obtain ⟨c3, h0⟩ := grd h0
 refine st (call1_ [] [2097152] [] false (H72 a0.list_ a1 r1 e2) ⟨tv, tv, tv⟩ (by kernel_rfl) (by kernel_rfl) (by kernel_rfl) (by kernel_rfl) (fun _ => and_ rfl (and_ (fl2 (fun _ => rfl)) rfl)) (sw ⟨[(0, .agg [iV a0.clock, iV a0.next, .own 2097152 0 4 (r1.2.map eDLease)]), (8, iV r1.1)], [], []⟩ (fg ⟨(congrArg (fun z => some ((.agg [iV a0.clock, iV a0.next, z] : V))) (row_eq c3)), rfl, tv⟩ tv) (mv_ rfl tv (oe_ (wk_ ⟨[(0, .agg [iV a0.clock, iV a0.next, .own 2097152 0 4 (r1.2.map eDLease)]), (1, iV r1.1)], [], []⟩ (fgk (by kernel_rfl)) (seq_ (reg_ (st (mv_ rfl tv (st (mv_ rfl tv (oe_ (wk_ ⟨[(0, .agg [iV a0.clock, iV a0.next, .own 2097152 0 4 (r1.2.map eDLease)]), (4, iV r1.1)], [], []⟩ (fgk (by kernel_rfl)) ?_)))))))))))))
 obtain rfl := Option.some.inj h0
 exact rt_ (ret_ rfl rfl rfl rfl rfl ⟨⟨rfl, mlen (fun _ => rfl)⟩, tv⟩)

/- loop.example/g00149/laws.markIntS -/
def c37_r0 : List Ins := [⟨some 4, .p (.mv (.c (iV 0))), none⟩]
def c37_r1 : List Ins := [⟨some 5, .p (.mv (.c (iV 0))), none⟩]
def c37_r2 : List Ins := [(iQ 6 (.mv (.t 5))),
(iQ 7 (.mv (.t 0))),
(iQ 8 (.len (.t 7))),
(iQ 9 (.bin .lss (.t 6) (.t 8)))]
def c37_r3 : List Ins := [(iQ 12 (.mv (.t 0))),
(iQ 13 (.mv (.t 5))),
(iQ 14 (.mv (.t 1))),
(iQ 15 (.idxA (.t 12) (.t 13) 1)),
⟨none, .store (.t 15) (.t 14) 1, none⟩]
def c37_r4 : List Ins := [(iQ 16 (.mv (.t 1))),
⟨some 17, .p (.bin .add (.t 16) (.c (iV 1))), none⟩,
(iQ 1 (.mv (.t 17)))]
def c37_r5 : List Ins := [(iQ 10 (.mv (.t 5))),
⟨some 11, .p (.bin .add (.t 10) (.c (iV 1))), none⟩,
(iQ 5 (.mv (.t 11)))]
def c37_l0 : IR := (.seq (.seq (.reg c37_r2) (.ite (.t 9) .skip (.exit 0))) (.seq (.block 1 (.seq (.reg c37_r3) (.reg c37_r4))) (.reg c37_r5)))
def c37_r6 : List Ins := [(iQ 18 (.mv (.t 1))),
(iQ 4 (.mv (.t 18)))]
def c37 : XFn := { np := 2, nt := 19, res := [.t 4], body := (.seq (.reg c37_r0) (.seq (.seq (.reg c37_r1) (.block 0 (.loop c37_l0))) (.seq (.reg c37_r6) .ret))) }
def K37 (C : CRel) : Prop := ∀ (a0 : List Int) (a1 : Int) (r : Int × (List Int)), g37 a0 a1 = some r → C 37 ⟨[.own 2097152 0 1 (a0.map eI), iV a1], []⟩ ⟨iV r.1, [], [(0, 1, r.2.map eI)]⟩
theorem F37 {C : CRel}  (a0 : List Int) (a1 : Int) (r : Int × (List Int)) (h0 : g37 a0 a1 = some r) : FnOK C c37 ⟨[.own 2097152 0 1 (a0.map eI), iV a1], []⟩ ⟨iV r.1, [], [(0, 1, r.2.map eI)]⟩ := by
 refine fn_ (nl rfl) (seq_ (reg_ (st (mvc_ tv (oe_ (wk_ ⟨[(0, .own 2097152 0 1 (a0.map eI)), (1, iV a1)], [], []⟩ (fgk (by kernel_rfl)) (seq_ (seq_ (reg_ (st (mvc_ tv (oe_ (wk_ ⟨[(0, .own 2097152 0 1 (a0.map eI)), (1, iV a1), (5, iV 0)], [], []⟩ (fgk (by kernel_rfl)) (block_ ?_))))))))))))))
 obtain ⟨r24, e25, h0⟩ := bnd h0
 refine loop_ (R := (fun S => ∃ p17 : List Int, ∃ p18 : Int, (p17, p18) = r24 ∧ S = ⟨[(0, .own 2097152 0 1 (p17.map eI)), (1, iV p18)], [], []⟩)) (g37_l0) (fun s S => match s with | (p6, p7, p8) => S = ⟨[(0, .own 2097152 0 1 (p6.map eI)), (1, iV p7), (5, iV p8)], [], []⟩) e25 ⟨[(0, .own 2097152 0 1 (a0.map eI)), (1, iV a1), (5, iV 0)], [], []⟩ (fgk (by kernel_rfl)) rfl 0 (fun _ => rfl) ?_ ?_
 ·rintro S _ hfg ⟨p17, p18, rfl, rfl⟩
  refine wk_ ⟨[(0, .own 2097152 0 1 (p17.map eI)), (1, iV p18)], [], []⟩ (fglk hfg (by kernel_rfl)) (seq_ (reg_ (st (mv_ rfl tv (st (mv_ rfl tv (oe_ (wk_ ⟨[(0, .own 2097152 0 1 (p17.map eI)), (4, iV p18)], [], []⟩ (fgk (by kernel_rfl)) ?_))))))))
  obtain rfl := Option.some.inj h0
  exact rt_ (ret_ rfl rfl rfl rfl rfl ⟨⟨rfl, mlen (fun _ => rfl)⟩, tv⟩)
 ·rintro ⟨p6, p7, p8⟩ o1 _ K1 rfl h1 hx1 hK1 hE1 hR1
  refine seq_ (seq_ (reg_ (st (mv_ rfl tv (st (mv_ rfl tv (st (c_ (clenO (e := eI) (l0 := p6) rfl rfl tv) (st (c_ (cp_ t3 rfl tv) (oe_ (wk_ ⟨[(0, .own 2097152 0 1 (p6.map eI)), (1, iV p7), (5, iV p8), (9, .bool (decide (p8 < (p6.length : Int))))], [], []⟩ (fgk (by kernel_rfl)) (ite_ (cb := (decide (p8 < (p6.length : Int)))) rfl (fun c19 => ?_) (fun c19 => ?_))))))))))))))
  ·replace h1 := ip c19 h1
   refine sk_ (wk_ ⟨[(0, .own 2097152 0 1 (p6.map eI)), (1, iV p7), (5, iV p8)], [], []⟩ (fgk (by kernel_rfl)) (seq_ (block_ (seq_ (reg_ (st (mv_ rfl tv (st (mv_ rfl tv (st (mv_ rfl tv ?_)))))))))))
   obtain ⟨y20, e21, h1⟩ := bnd h1
   refine st (c_ (cidxO (e := eI) (y := y20) rfl rfl tv rfl rfl tv e21) ?_)
   obtain ⟨y22, e23, h1⟩ := bnd h1
   refine st (sto_ (y' := p7) rfl rfl tv rfl rfl rfl rfl e23 (nl rfl) rfl rfl rfl rfl (oe_ (wk_ ⟨[(0, .own 2097152 0 1 ((p6.set p8.toNat p7).map eI)), (1, iV p7), (5, iV p8)], [], []⟩ (fg ⟨(congrArg (fun z => some ((.own 2097152 0 1 z : V))) overlay_map), rfl, rfl, tv⟩ tv) (reg_ (st (mv_ rfl tv (st (c_ (cp_ t3 rfl tv) (st (mv_ rfl tv (oe_ (bn_ (wk_ ⟨[(0, .own 2097152 0 1 ((p6.set p8.toNat p7).map eI)), (1, iV (IntKind.i64.wrap (p7 + 1))), (5, iV p8)], [], []⟩ (fgk (by kernel_rfl)) (reg_ (st (mv_ rfl tv (st (c_ (cp_ t3 rfl tv) (st (mv_ rfl tv (oe_ ?_)))))))))))))))))))))
   obtain rfl := Option.some.inj h1
   exact hK1 _ rfl _ ⟨[(0, .own 2097152 0 1 ((p6.set p8.toNat p7).map eI)), (1, iV (IntKind.i64.wrap (p7 + 1))), (5, iV (IntKind.i64.wrap (p8 + 1)))], [], []⟩ (fgk (by kernel_rfl)) rfl
  ·replace h1 := inb c19 h1
   obtain rfl := Option.some.inj h1
   obtain rfl := hx1 _ rfl
   refine exQ rfl ?_
   exact hE1 _ ⟨[(0, .own 2097152 0 1 (p6.map eI)), (1, iV p7)], [], []⟩ (fgk (by kernel_rfl)) ⟨_, _, rfl, rfl⟩

/- loop.example/g00149/laws.markIntentS -/
def c315_r0 : List Ins := [⟨some 4, .p (.mv (.c (iV 0))), none⟩]
def c315_r1 : List Ins := [⟨some 5, .p (.mv (.c (iV 0))), none⟩]
def c315_r2 : List Ins := [(iQ 6 (.mv (.t 5))),
(iQ 7 (.mv (.t 0))),
(iQ 8 (.len (.t 7))),
(iQ 9 (.bin .lss (.t 6) (.t 8)))]
def c315_r3 : List Ins := [(iQ 12 (.mv (.t 0))),
(iQ 13 (.mv (.t 5))),
(iQ 14 (.mv (.t 1))),
(iQ 15 (.idxA (.t 12) (.t 13) 2)),
(iQ 16 (.fieldA (.t 15) 0)),
⟨none, .store (.t 16) (.t 14) 1, none⟩]
def c315_r4 : List Ins := [(iQ 17 (.mv (.t 1))),
⟨some 18, .p (.bin .add (.t 17) (.c (iV 1))), none⟩,
(iQ 1 (.mv (.t 18)))]
def c315_r5 : List Ins := [(iQ 19 (.mv (.t 0))),
(iQ 20 (.mv (.t 5))),
(iQ 21 (.mv (.t 1))),
⟨some 22, .p (.bin .rem (.t 21) (.c (iV 3))), none⟩,
⟨some 23, .p (.bin .eql (.t 22) (.c (iV 0))), none⟩,
(iQ 24 (.idxA (.t 19) (.t 20) 2)),
(iQ 25 (.fieldA (.t 24) 1)),
⟨none, .store (.t 25) (.t 23) 1, none⟩]
def c315_r6 : List Ins := [(iQ 26 (.mv (.t 1))),
⟨some 27, .p (.bin .add (.t 26) (.c (iV 1))), none⟩,
(iQ 1 (.mv (.t 27)))]
def c315_r7 : List Ins := [(iQ 10 (.mv (.t 5))),
⟨some 11, .p (.bin .add (.t 10) (.c (iV 1))), none⟩,
(iQ 5 (.mv (.t 11)))]
def c315_l0 : IR := (.seq (.seq (.reg c315_r2) (.ite (.t 9) .skip (.exit 0))) (.seq (.block 1 (.seq (.reg c315_r3) (.seq (.reg c315_r4) (.seq (.reg c315_r5) (.reg c315_r6))))) (.reg c315_r7)))
def c315_r8 : List Ins := [(iQ 28 (.mv (.t 1))),
(iQ 4 (.mv (.t 28)))]
def c315 : XFn := { np := 2, nt := 29, res := [.t 4], body := (.seq (.reg c315_r0) (.seq (.seq (.reg c315_r1) (.block 0 (.loop c315_l0))) (.seq (.reg c315_r8) .ret))) }
def K315 (C : CRel) : Prop := ∀ (a0 : List DIntent) (a1 : Int) (r : Int × (List DIntent)), g315 a0 a1 = some r → C 315 ⟨[.own 2097152 0 2 (a0.map eDIntent), iV a1], []⟩ ⟨iV r.1, [], [(0, 2, r.2.map eDIntent)]⟩
theorem F315 {C : CRel}  (a0 : List DIntent) (a1 : Int) (r : Int × (List DIntent)) (h0 : g315 a0 a1 = some r) : FnOK C c315 ⟨[.own 2097152 0 2 (a0.map eDIntent), iV a1], []⟩ ⟨iV r.1, [], [(0, 2, r.2.map eDIntent)]⟩ := by
 refine fn_ (nl rfl) (seq_ (reg_ (st (mvc_ tv (oe_ (wk_ ⟨[(0, .own 2097152 0 2 (a0.map eDIntent)), (1, iV a1)], [], []⟩ (fgk (by kernel_rfl)) (seq_ (seq_ (reg_ (st (mvc_ tv (oe_ (wk_ ⟨[(0, .own 2097152 0 2 (a0.map eDIntent)), (1, iV a1), (5, iV 0)], [], []⟩ (fgk (by kernel_rfl)) (block_ ?_))))))))))))))
 obtain ⟨r42, e43, h0⟩ := bnd h0
 refine loop_ (R := (fun S => ∃ p29 : List DIntent, ∃ p30 : Int, (p29, p30) = r42 ∧ S = ⟨[(0, .own 2097152 0 2 (p29.map eDIntent)), (1, iV p30)], [], []⟩)) (g315_l0) (fun s S => match s with | (p12, p13, p14) => S = ⟨[(0, .own 2097152 0 2 (p12.map eDIntent)), (1, iV p13), (5, iV p14)], [], []⟩) e43 ⟨[(0, .own 2097152 0 2 (a0.map eDIntent)), (1, iV a1), (5, iV 0)], [], []⟩ (fgk (by kernel_rfl)) rfl 0 (fun _ => rfl) ?_ ?_
 ·rintro S _ hfg ⟨p29, p30, rfl, rfl⟩
  refine wk_ ⟨[(0, .own 2097152 0 2 (p29.map eDIntent)), (1, iV p30)], [], []⟩ (fglk hfg (by kernel_rfl)) (seq_ (reg_ (st (mv_ rfl tv (st (mv_ rfl tv (oe_ (wk_ ⟨[(0, .own 2097152 0 2 (p29.map eDIntent)), (4, iV p30)], [], []⟩ (fgk (by kernel_rfl)) ?_))))))))
  obtain rfl := Option.some.inj h0
  exact rt_ (ret_ rfl rfl rfl rfl rfl ⟨⟨rfl, mlen (fun _ => rfl)⟩, tv⟩)
 ·rintro ⟨p12, p13, p14⟩ o1 _ K1 rfl h1 hx1 hK1 hE1 hR1
  refine seq_ (seq_ (reg_ (st (mv_ rfl tv (st (mv_ rfl tv (st (c_ (clenO (e := eDIntent) (l0 := p12) rfl rfl tv) (st (c_ (cp_ t3 rfl tv) (oe_ (wk_ ⟨[(0, .own 2097152 0 2 (p12.map eDIntent)), (1, iV p13), (5, iV p14), (9, .bool (decide (p14 < (p12.length : Int))))], [], []⟩ (fgk (by kernel_rfl)) (ite_ (cb := (decide (p14 < (p12.length : Int)))) rfl (fun c31 => ?_) (fun c31 => ?_))))))))))))))
  ·replace h1 := ip c31 h1
   refine sk_ (wk_ ⟨[(0, .own 2097152 0 2 (p12.map eDIntent)), (1, iV p13), (5, iV p14)], [], []⟩ (fgk (by kernel_rfl)) (seq_ (block_ (seq_ (reg_ (st (mv_ rfl tv (st (mv_ rfl tv (st (mv_ rfl tv ?_)))))))))))
   obtain ⟨y32, e33, h1⟩ := bnd h1
   refine st (c_ (cidxO (e := eDIntent) (y := y32) rfl rfl tv rfl rfl tv e33) (st (c_ (cp_ ⟨tv, tv⟩ rfl tv) ?_)))
   obtain ⟨y34, e35, h1⟩ := bnd h1
   refine st (sto_ (y' := (DIntent.mk p13 y34.undo)) rfl rfl tv rfl rfl rfl rfl e35 (nl rfl) rfl rfl rfl rfl (oe_ (wk_ ⟨[(0, .own 2097152 0 2 ((p12.set p14.toNat (DIntent.mk p13 y34.undo)).map eDIntent)), (1, iV p13), (5, iV p14)], [], []⟩ (fg ⟨(congrArg (fun z => some ((.own 2097152 0 2 z : V))) overlay_map), rfl, rfl, tv⟩ tv) (seq_ (reg_ (st (mv_ rfl tv (st (c_ (cp_ t3 rfl tv) (st (mv_ rfl tv (oe_ (wk_ ⟨[(0, .own 2097152 0 2 ((p12.set p14.toNat (DIntent.mk p13 y34.undo)).map eDIntent)), (1, iV (IntKind.i64.wrap (p13 + 1))), (5, iV p14)], [], []⟩ (fgk (by kernel_rfl)) (seq_ (reg_ (st (mv_ rfl tv (st (mv_ rfl tv (st (mv_ rfl tv (st (c_ (cp_ ⟨tv, tv, tv⟩ rfl (by decide)) (st (c_ (cp_ t3 rfl tv) ?_)))))))))))))))))))))))))
   obtain ⟨y36, e37, h1⟩ := bnd h1
   refine st (c_ (cidxO (e := eDIntent) (y := y36) rfl rfl tv rfl rfl tv e37) (st (c_ (cp_ ⟨tv, tv⟩ rfl tv) ?_)))
   obtain ⟨y38, e39, h1⟩ := bnd h1
   refine st (sto_ (y' := (DIntent.mk y38.lease ((((IntKind.i64.wrap (p13 + 1))).tmod 3) == 0))) rfl rfl tv rfl rfl rfl rfl e39 (nl rfl) rfl rfl rfl rfl (oe_ (wk_ ⟨[(0, .own 2097152 0 2 (((p12.set p14.toNat (DIntent.mk p13 y34.undo)).set p14.toNat (DIntent.mk y38.lease ((((IntKind.i64.wrap (p13 + 1))).tmod 3) == 0))).map eDIntent)), (1, iV (IntKind.i64.wrap (p13 + 1))), (5, iV p14)], [], []⟩ (fg ⟨(congrArg (fun z => some ((.own 2097152 0 2 z : V))) overlay_map), rfl, rfl, tv⟩ tv) (reg_ (st (mv_ rfl tv (st (c_ (cp_ t3 rfl tv) (st (mv_ rfl tv (oe_ (bn_ ?_))))))))))))
   obtain ⟨v40, e41, h1⟩ := bl h1
   refine wk_ ⟨[(0, .own 2097152 0 2 (v40.map eDIntent)), (1, iV (IntKind.i64.wrap ((IntKind.i64.wrap (p13 + 1)) + 1))), (5, iV p14)], [], []⟩ (fgk (by subst e41; kernel_rfl)) (reg_ (st (mv_ rfl tv (st (c_ (cp_ t3 rfl tv) (st (mv_ rfl tv (oe_ ?_))))))))
   obtain rfl := Option.some.inj h1
   exact hK1 _ rfl _ ⟨[(0, .own 2097152 0 2 (v40.map eDIntent)), (1, iV (IntKind.i64.wrap ((IntKind.i64.wrap (p13 + 1)) + 1))), (5, iV (IntKind.i64.wrap (p14 + 1)))], [], []⟩ (fgk (by kernel_rfl)) rfl
  ·replace h1 := inb c31 h1
   obtain rfl := Option.some.inj h1
   obtain rfl := hx1 _ rfl
   refine exQ rfl ?_
   exact hE1 _ ⟨[(0, .own 2097152 0 2 (p12.map eDIntent)), (1, iV p13)], [], []⟩ (fgk (by kernel_rfl)) ⟨_, _, rfl, rfl⟩

/- loop.example/g00149/laws.markVault -/
def c252_r0 : List Ins := [⟨some 2, .box (.t 0), none⟩,
⟨some 4, .p (.mv (.c (iV 0))), none⟩]
def c252_r1 : List Ins := [(iQ 5 (.fieldA (.t 2) 0)),
(iQ 6 (.load (.t 5) 3 true)),
(iQ 7 (.mv (.t 1))),
⟨some 8, .call 26 [(.t 6), (.t 7)], none⟩,
(iQ 1 (.mv (.t 8)))]
def c252_r2 : List Ins := [(iQ 9 (.fieldA (.t 2) 3)),
(iQ 10 (.load (.t 9) 1 false)),
(iQ 11 (.mv (.t 1))),
⟨some 12, .call 315 [(.t 10), (.t 11)], none⟩,
(iQ 1 (.mv (.t 12)))]
def c252_r3 : List Ins := [(iQ 13 (.fieldA (.t 2) 4)),
(iQ 14 (.load (.t 13) 1 false)),
(iQ 15 (.mv (.t 1))),
⟨some 16, .call 37 [(.t 14), (.t 15)], none⟩,
(iQ 1 (.mv (.t 16)))]
def c252_r4 : List Ins := [(iQ 17 (.mv (.t 1))),
(iQ 4 (.mv (.t 17)))]
def c252 : XFn := { np := 2, nt := 18, res := [.t 4], body := (.seq (.reg c252_r0) (.seq (.reg c252_r1) (.seq (.reg c252_r2) (.seq (.reg c252_r3) (.seq (.reg c252_r4) .ret))))) }
def K252 (C : CRel) : Prop := ∀ (a0 : DVault) (a1 : Int) (r : Int × (List DLease) × (List DIntent) × (List Int)), g252 a0 a1 = some r → C 252 ⟨[.agg [iV a0.table.clock, iV a0.table.next, .own 2097152 0 4 (a0.table.list_.map eDLease), .own 2097153 0 2 (a0.intents.map eDIntent), .own 2097154 0 1 (a0.accounts.map eI), .bool a0.sealed], iV a1], []⟩ ⟨iV r.1, [], [(0, 4, r.2.1.map eDLease), (0, 2, r.2.2.1.map eDIntent), (0, 1, r.2.2.2.map eI)]⟩
theorem F252 {C : CRel} (H26 : K26 C) (H37 : K37 C) (H315 : K315 C) (a0 : DVault) (a1 : Int) (r : Int × (List DLease) × (List DIntent) × (List Int)) (h0 : g252 a0 a1 = some r) : FnOK C c252 ⟨[.agg [iV a0.table.clock, iV a0.table.next, .own 2097152 0 4 (a0.table.list_.map eDLease), .own 2097153 0 2 (a0.intents.map eDIntent), .own 2097154 0 1 (a0.accounts.map eI), .bool a0.sealed], iV a1], []⟩ ⟨iV r.1, [], [(0, 4, r.2.1.map eDLease), (0, 2, r.2.2.1.map eDIntent), (0, 1, r.2.2.2.map eI)]⟩ := by
 refine fn_ (nl rfl) (seq_ (reg_ (st (box_ rfl tv rfl (st (mvc_ tv (oe_ (wk_ ⟨[(0, .agg [iV a0.table.clock, iV a0.table.next, .own 2097152 0 4 (a0.table.list_.map eDLease), .own 2097153 0 2 (a0.intents.map eDIntent), .own 2097154 0 1 (a0.accounts.map eI), .bool a0.sealed]), (1, iV a1), (2, .ptr 128 0)], [(128, [iV a0.table.clock, iV a0.table.next, .own 2097152 0 4 (a0.table.list_.map eDLease), .own 2097153 0 2 (a0.intents.map eDIntent), .own 2097154 0 1 (a0.accounts.map eI), .bool a0.sealed])], []⟩ (fgk (by kernel_rfl)) (seq_ (reg_ (st (c_ (cp_ ⟨tv, tv⟩ rfl tv) (st (c_ (v := .agg [iV a0.table.clock, iV a0.table.next, .own 2097152 0 4 (a0.table.list_.map eDLease)]) (cp_ ⟨tv, tv⟩ rfl (nl rfl)) (st (mv_ rfl tv ?_))))))))))))))))
 obtain ⟨r1, e2, h0⟩ := bnd h0
 obtain ⟨c3, h0⟩ := grd h0
 refine st (call1_ [] [2097152] [] false (H26 a0.table a1 r1 e2) ⟨tv, tv, tv⟩ (by kernel_rfl) (by kernel_rfl) (by kernel_rfl) (by kernel_rfl) (fun _ => and_ rfl (and_ (fl2 (fun _ => rfl)) rfl)) (sw ⟨[(0, .agg [iV a0.table.clock, iV a0.table.next, .own 2097152 0 4 (r1.2.map eDLease), .own 2097153 0 2 (a0.intents.map eDIntent), .own 2097154 0 1 (a0.accounts.map eI), .bool a0.sealed]), (2, .ptr 128 0), (8, iV r1.1)], [(128, [iV a0.table.clock, iV a0.table.next, .own 2097152 0 4 (r1.2.map eDLease), .own 2097153 0 2 (a0.intents.map eDIntent), .own 2097154 0 1 (a0.accounts.map eI), .bool a0.sealed])], []⟩ (fg ⟨(congrArg (fun z => some ((.agg [iV a0.table.clock, iV a0.table.next, z, .own 2097153 0 2 (a0.intents.map eDIntent), .own 2097154 0 1 (a0.accounts.map eI), .bool a0.sealed] : V))) (row_eq c3)), rfl, rfl, tv⟩ ⟨(congrArg (fun z => some (([iV a0.table.clock, iV a0.table.next, z, .own 2097153 0 2 (a0.intents.map eDIntent), .own 2097154 0 1 (a0.accounts.map eI), .bool a0.sealed] : List V))) (row_eq c3)), tv⟩) (mv_ rfl tv (oe_ (wk_ ⟨[(0, .agg [iV a0.table.clock, iV a0.table.next, .own 2097152 0 4 (r1.2.map eDLease), .own 2097153 0 2 (a0.intents.map eDIntent), .own 2097154 0 1 (a0.accounts.map eI), .bool a0.sealed]), (1, iV r1.1), (2, .ptr 128 0)], [(128, [iV a0.table.clock, iV a0.table.next, .own 2097152 0 4 (r1.2.map eDLease), .own 2097153 0 2 (a0.intents.map eDIntent), .own 2097154 0 1 (a0.accounts.map eI), .bool a0.sealed])], []⟩ (fgk (by kernel_rfl)) (seq_ (reg_ (st (c_ (cp_ ⟨tv, tv⟩ rfl tv) (st (c_ (cp_ ⟨tv, tv⟩ rfl (nl rfl)) (st (mv_ rfl tv ?_)))))))))))))
 obtain ⟨r4, e5, h0⟩ := bnd h0
 obtain ⟨c6, h0⟩ := grd h0
 refine st (call1_ [] [2097153] [] false (H315 a0.intents r1.1 r4 e5) ⟨tv, tv, tv⟩ (by kernel_rfl) (by kernel_rfl) (by kernel_rfl) (by kernel_rfl) (fun _ => and_ rfl (and_ (fl2 (fun _ => rfl)) rfl)) (sw ⟨[(0, .agg [iV a0.table.clock, iV a0.table.next, .own 2097152 0 4 (r1.2.map eDLease), .own 2097153 0 2 (r4.2.map eDIntent), .own 2097154 0 1 (a0.accounts.map eI), .bool a0.sealed]), (2, .ptr 128 0), (12, iV r4.1)], [(128, [iV a0.table.clock, iV a0.table.next, .own 2097152 0 4 (r1.2.map eDLease), .own 2097153 0 2 (r4.2.map eDIntent), .own 2097154 0 1 (a0.accounts.map eI), .bool a0.sealed])], []⟩ (fg ⟨(congrArg (fun z => some ((.agg [iV a0.table.clock, iV a0.table.next, .own 2097152 0 4 (r1.2.map eDLease), z, .own 2097154 0 1 (a0.accounts.map eI), .bool a0.sealed] : V))) (row_eq c6)), rfl, rfl, tv⟩ ⟨(congrArg (fun z => some (([iV a0.table.clock, iV a0.table.next, .own 2097152 0 4 (r1.2.map eDLease), z, .own 2097154 0 1 (a0.accounts.map eI), .bool a0.sealed] : List V))) (row_eq c6)), tv⟩) (mv_ rfl tv (oe_ (wk_ ⟨[(0, .agg [iV a0.table.clock, iV a0.table.next, .own 2097152 0 4 (r1.2.map eDLease), .own 2097153 0 2 (r4.2.map eDIntent), .own 2097154 0 1 (a0.accounts.map eI), .bool a0.sealed]), (1, iV r4.1), (2, .ptr 128 0)], [(128, [iV a0.table.clock, iV a0.table.next, .own 2097152 0 4 (r1.2.map eDLease), .own 2097153 0 2 (r4.2.map eDIntent), .own 2097154 0 1 (a0.accounts.map eI), .bool a0.sealed])], []⟩ (fgk (by kernel_rfl)) (seq_ (reg_ (st (c_ (cp_ ⟨tv, tv⟩ rfl tv) (st (c_ (cp_ ⟨tv, tv⟩ rfl (nl rfl)) (st (mv_ rfl tv ?_)))))))))))))
 obtain ⟨r7, e8, h0⟩ := bnd h0
 obtain ⟨c9, h0⟩ := grd h0
 refine st (call1_ [] [2097154] [] false (H37 a0.accounts r4.1 r7 e8) ⟨tv, tv, tv⟩ (by kernel_rfl) (by kernel_rfl) (by kernel_rfl) (by kernel_rfl) (fun _ => and_ rfl (and_ (fl2 (fun _ => rfl)) rfl)) (sw ⟨[(0, .agg [iV a0.table.clock, iV a0.table.next, .own 2097152 0 4 (r1.2.map eDLease), .own 2097153 0 2 (r4.2.map eDIntent), .own 2097154 0 1 (r7.2.map eI), .bool a0.sealed]), (16, iV r7.1)], [], []⟩ (fg ⟨(congrArg (fun z => some ((.agg [iV a0.table.clock, iV a0.table.next, .own 2097152 0 4 (r1.2.map eDLease), .own 2097153 0 2 (r4.2.map eDIntent), z, .bool a0.sealed] : V))) (row_eq c9)), rfl, tv⟩ tv) (mv_ rfl tv (oe_ (wk_ ⟨[(0, .agg [iV a0.table.clock, iV a0.table.next, .own 2097152 0 4 (r1.2.map eDLease), .own 2097153 0 2 (r4.2.map eDIntent), .own 2097154 0 1 (r7.2.map eI), .bool a0.sealed]), (1, iV r7.1)], [], []⟩ (fgk (by kernel_rfl)) (seq_ (reg_ (st (mv_ rfl tv (st (mv_ rfl tv (oe_ (wk_ ⟨[(0, .agg [iV a0.table.clock, iV a0.table.next, .own 2097152 0 4 (r1.2.map eDLease), .own 2097153 0 2 (r4.2.map eDIntent), .own 2097154 0 1 (r7.2.map eI), .bool a0.sealed]), (4, iV r7.1)], [], []⟩ (fgk (by kernel_rfl)) ?_)))))))))))))
 obtain rfl := Option.some.inj h0
 exact rt_ (ret_ rfl rfl rfl rfl rfl ⟨⟨rfl, mlen (fun _ => rfl)⟩, ⟨⟨rfl, mlen (fun _ => rfl)⟩, ⟨⟨rfl, mlen (fun _ => rfl)⟩, tv⟩⟩⟩)

/- loop.example/g00149/laws.markText -/
def c316_r0 : List Ins := [⟨some 2, .p (.mv (.c (.str []))), none⟩]
def c316_r1 : List Ins := [(iQ 4 (.mv (.t 0))),
⟨some 5, .p (.bin .leq (.t 4) (.c (iV 0))), none⟩]
def c316_r2 : List Ins := [⟨some 2, .p (.mv (.c (.str [109, 48]))), none⟩]
def c316_r3 : List Ins := [⟨some 3, .p (.mv (.c (.str []))), none⟩]
def c316_r4 : List Ins := [(iQ 6 (.mv (.t 0))),
⟨some 7, .p (.bin .gtr (.t 6) (.c (iV 0))), none⟩]
def c316_r5 : List Ins := [(iQ 8 (.mv (.t 0))),
⟨some 9, .p (.bin .rem (.t 8) (.c (iV 10))), none⟩,
⟨some 10, .p (.bin .add (.c (iV 48)) (.t 9)), none⟩,
(iQ 11 (.conv .u8 (.t 10))),
⟨some 12, .mkS 1 [(.int .u8 0)] 1 [(0, (.t 11))], none⟩,
(iQ 13 (.toStr (.t 12))),
(iQ 14 (.mv (.t 3))),
(iQ 15 (.bin .add (.t 13) (.t 14))),
(iQ 3 (.mv (.t 15)))]
def c316_r6 : List Ins := [(iQ 16 (.mv (.t 0))),
⟨some 17, .p (.bin .quo (.t 16) (.c (iV 10))), none⟩,
(iQ 0 (.mv (.t 17)))]
def c316_l0 : IR := (.seq (.seq (.reg c316_r4) (.ite (.t 7) .skip (.exit 0))) (.block 1 (.seq (.reg c316_r5) (.reg c316_r6))))
def c316_r7 : List Ins := [(iQ 18 (.mv (.t 3))),
⟨some 19, .p (.bin .add (.c (.str [109])) (.t 18)), none⟩,
(iQ 2 (.mv (.t 19)))]
def c316 : XFn := { np := 1, nt := 20, res := [.t 2], body := (.seq (.reg c316_r0) (.seq (.seq (.reg c316_r1) (.ite (.t 5) (.seq (.reg c316_r2) .ret) .skip)) (.seq (.reg c316_r3) (.seq (.block 0 (.loop c316_l0)) (.seq (.reg c316_r7) .ret))))) }
def K316 (C : CRel) : Prop := ∀ (a0 : Int) (r : (List UInt8)), g316 a0 = some r → C 316 ⟨[iV a0], []⟩ ⟨.str r, [], []⟩
theorem F316 {C : CRel}  (a0 : Int) (r : (List UInt8)) (h0 : g316 a0 = some r) : FnOK C c316 ⟨[iV a0], []⟩ ⟨.str r, [], []⟩ := by
 refine fn_ (nl rfl) (seq_ (reg_ (st (mvc_ tv (oe_ (wk_ ⟨[(0, iV a0)], [], []⟩ (fgk (by kernel_rfl)) (seq_ (seq_ (reg_ (st (mv_ rfl tv (st (c_ (cp_ t3 rfl tv) (oe_ (wk_ ⟨[(0, iV a0), (5, .bool (decide (a0 ≤ 0)))], [], []⟩ (fgk (by kernel_rfl)) (ite_ (cb := (decide (a0 ≤ 0))) rfl (fun c1 => ?_) (fun c1 => ?_)))))))))))))))))
 ·replace h0 := ip c1 h0
  refine seq_ (reg_ (st (mvc_ tv (oe_ (wk_ ⟨[(2, .str ([109, 48] : List UInt8))], [], []⟩ (fgk (by kernel_rfl)) ?_)))))
  obtain rfl := Option.some.inj h0
  exact rt_ (ret_ rfl rfl rfl rfl rfl tv)
 ·replace h0 := inb c1 h0
  refine sk_ (wk_ ⟨[(0, iV a0)], [], []⟩ (fgk (by kernel_rfl)) (seq_ (reg_ (st (mvc_ tv (oe_ (wk_ ⟨[(0, iV a0), (3, .str ([] : List UInt8))], [], []⟩ (fgk (by kernel_rfl)) (seq_ (block_ ?_)))))))))
  obtain ⟨r15, e16, h0⟩ := bnd h0
  refine loop_ (R := (fun S => ∃ p12 : List UInt8, p12 = r15 ∧ S = ⟨[(3, .str p12)], [], []⟩)) (g316_l0) (fun s S => match s with | (p6, p7) => S = ⟨[(0, iV p6), (3, .str p7)], [], []⟩) e16 ⟨[(0, iV a0), (3, .str ([] : List UInt8))], [], []⟩ (fgk (by kernel_rfl)) rfl 0 (fun _ => rfl) ?_ ?_
  ·rintro S _ hfg ⟨p12, rfl, rfl⟩
   refine wk_ ⟨[(3, .str p12)], [], []⟩ (fglk hfg (by kernel_rfl)) (seq_ (reg_ (st (mv_ rfl tv ?_))))
   obtain ⟨c17, h0⟩ := grd h0
   refine st (c_ (cp_ ⟨tv, tv, tv⟩ rfl c17) (st (mv_ rfl tv (oe_ (wk_ ⟨[(2, .str (([109] : List UInt8) ++ p12))], [], []⟩ (fgk (by kernel_rfl)) ?_)))))
   obtain rfl := Option.some.inj h0
   exact rt_ (ret_ rfl rfl rfl rfl rfl tv)
  ·rintro ⟨p6, p7⟩ o1 _ K1 rfl h1 hx1 hK1 hE1 hR1
   refine seq_ (seq_ (reg_ (st (mv_ rfl tv (st (c_ (cp_ t3 rfl tv) (oe_ (wk_ ⟨[(0, iV p6), (3, .str p7), (7, .bool (decide (p6 > 0)))], [], []⟩ (fgk (by kernel_rfl)) (ite_ (cb := (decide (p6 > 0))) rfl (fun c13 => ?_) (fun c13 => ?_))))))))))
   ·replace h1 := ip c13 h1
    refine sk_ (wk_ ⟨[(0, iV p6), (3, .str p7)], [], []⟩ (fgk (by kernel_rfl)) (block_ (seq_ (reg_ (st (mv_ rfl tv (st (c_ (cp_ ⟨tv, tv, tv⟩ rfl (by decide)) (st (c_ (cp_ t3 rfl tv) (st (c_ (cb8 (cp_ ⟨tv, tv⟩ rfl tv)) (st (mkS_ ⟨tv, tv⟩ ⟨⟨nl rfl, rfl, rfl⟩, tv⟩ (st (c_ (ctoStrO (s := ([b8 (IntKind.i64.wrap (48 + ((p6).tmod 10)))] : List UInt8)) rfl rfl tv) (st (mv_ rfl tv ?_))))))))))))))))))
    obtain ⟨c14, h1⟩ := grd h1
    refine st (c_ (cp_ ⟨tv, tv, tv⟩ rfl c14) (st (mv_ rfl tv (oe_ (wk_ ⟨[(0, iV p6), (3, .str (([b8 (IntKind.i64.wrap (48 + ((p6).tmod 10)))] : List UInt8) ++ p7))], [], []⟩ (fgk (by kernel_rfl)) (reg_ (st (mv_ rfl tv (st (c_ (cp_ ⟨tv, tv, tv⟩ rfl (by decide)) (st (mv_ rfl tv (oe_ (bn_ ?_))))))))))))))
    obtain rfl := Option.some.inj h1
    exact hK1 _ rfl _ ⟨[(0, iV (IntKind.i64.wrap ((p6).tdiv 10))), (3, .str (([b8 (IntKind.i64.wrap (48 + ((p6).tmod 10)))] : List UInt8) ++ p7))], [], []⟩ (fgk (by kernel_rfl)) rfl
   ·replace h1 := inb c13 h1
    obtain rfl := Option.some.inj h1
    obtain rfl := hx1 _ rfl
    refine exQ rfl ?_
    exact hE1 _ ⟨[(3, .str p7)], [], []⟩ (fgk (by kernel_rfl)) ⟨_, rfl, rfl⟩

/- loop.example/g00149/laws.markPairS -/
def c253_r0 : List Ins := [⟨some 4, .p (.mv (.c (iV 0))), none⟩]
def c253_r1 : List Ins := [⟨some 5, .p (.mv (.c (iV 0))), none⟩]
def c253_r2 : List Ins := [(iQ 6 (.mv (.t 5))),
(iQ 7 (.mv (.t 0))),
(iQ 8 (.len (.t 7))),
(iQ 9 (.bin .lss (.t 6) (.t 8)))]
def c253_r3 : List Ins := [(iQ 12 (.mv (.t 0))),
(iQ 13 (.mv (.t 5))),
(iQ 14 (.mv (.t 1))),
⟨some 15, .call 316 [(.t 14)], none⟩,
(iQ 16 (.idxA (.t 12) (.t 13) 2)),
(iQ 17 (.fieldA (.t 16) 0)),
⟨none, .store (.t 17) (.t 15) 1, none⟩]
def c253_r4 : List Ins := [(iQ 18 (.mv (.t 1))),
⟨some 19, .p (.bin .add (.t 18) (.c (iV 1))), none⟩,
(iQ 1 (.mv (.t 19)))]
def c253_r5 : List Ins := [(iQ 20 (.mv (.t 0))),
(iQ 21 (.mv (.t 5))),
(iQ 22 (.mv (.t 1))),
⟨some 23, .call 316 [(.t 22)], none⟩,
(iQ 24 (.idxA (.t 20) (.t 21) 2)),
(iQ 25 (.fieldA (.t 24) 1)),
⟨none, .store (.t 25) (.t 23) 1, none⟩]
def c253_r6 : List Ins := [(iQ 26 (.mv (.t 1))),
⟨some 27, .p (.bin .add (.t 26) (.c (iV 1))), none⟩,
(iQ 1 (.mv (.t 27)))]
def c253_r7 : List Ins := [(iQ 10 (.mv (.t 5))),
⟨some 11, .p (.bin .add (.t 10) (.c (iV 1))), none⟩,
(iQ 5 (.mv (.t 11)))]
def c253_l0 : IR := (.seq (.seq (.reg c253_r2) (.ite (.t 9) .skip (.exit 0))) (.seq (.block 1 (.seq (.reg c253_r3) (.seq (.reg c253_r4) (.seq (.reg c253_r5) (.reg c253_r6))))) (.reg c253_r7)))
def c253_r8 : List Ins := [(iQ 28 (.mv (.t 1))),
(iQ 4 (.mv (.t 28)))]
def c253 : XFn := { np := 2, nt := 29, res := [.t 4], body := (.seq (.reg c253_r0) (.seq (.seq (.reg c253_r1) (.block 0 (.loop c253_l0))) (.seq (.reg c253_r8) .ret))) }
def K253 (C : CRel) : Prop := ∀ (a0 : List DPair) (a1 : Int) (r : Int × (List DPair)), g253 a0 a1 = some r → C 253 ⟨[.own 2097152 0 2 (a0.map eDPair), iV a1], []⟩ ⟨iV r.1, [], [(0, 2, r.2.map eDPair)]⟩
theorem F253 {C : CRel} (H316 : K316 C) (a0 : List DPair) (a1 : Int) (r : Int × (List DPair)) (h0 : g253 a0 a1 = some r) : FnOK C c253 ⟨[.own 2097152 0 2 (a0.map eDPair), iV a1], []⟩ ⟨iV r.1, [], [(0, 2, r.2.map eDPair)]⟩ := by
 refine fn_ (nl rfl) (seq_ (reg_ (st (mvc_ tv (oe_ (wk_ ⟨[(0, .own 2097152 0 2 (a0.map eDPair)), (1, iV a1)], [], []⟩ (fgk (by kernel_rfl)) (seq_ (seq_ (reg_ (st (mvc_ tv (oe_ (wk_ ⟨[(0, .own 2097152 0 2 (a0.map eDPair)), (1, iV a1), (5, iV 0)], [], []⟩ (fgk (by kernel_rfl)) (block_ ?_))))))))))))))
 obtain ⟨r54, e55, h0⟩ := bnd h0
 refine loop_ (R := (fun S => ∃ p37 : List DPair, ∃ p38 : Int, (p37, p38) = r54 ∧ S = ⟨[(0, .own 2097152 0 2 (p37.map eDPair)), (1, iV p38)], [], []⟩)) (g253_l0) (fun s S => match s with | (p16, p17, p18) => S = ⟨[(0, .own 2097152 0 2 (p16.map eDPair)), (1, iV p17), (5, iV p18)], [], []⟩) e55 ⟨[(0, .own 2097152 0 2 (a0.map eDPair)), (1, iV a1), (5, iV 0)], [], []⟩ (fgk (by kernel_rfl)) rfl 0 (fun _ => rfl) ?_ ?_
 ·rintro S _ hfg ⟨p37, p38, rfl, rfl⟩
  refine wk_ ⟨[(0, .own 2097152 0 2 (p37.map eDPair)), (1, iV p38)], [], []⟩ (fglk hfg (by kernel_rfl)) (seq_ (reg_ (st (mv_ rfl tv (st (mv_ rfl tv (oe_ (wk_ ⟨[(0, .own 2097152 0 2 (p37.map eDPair)), (4, iV p38)], [], []⟩ (fgk (by kernel_rfl)) ?_))))))))
  obtain rfl := Option.some.inj h0
  exact rt_ (ret_ rfl rfl rfl rfl rfl ⟨⟨rfl, mlen (fun _ => rfl)⟩, tv⟩)
 ·rintro ⟨p16, p17, p18⟩ o1 _ K1 rfl h1 hx1 hK1 hE1 hR1
  refine seq_ (seq_ (reg_ (st (mv_ rfl tv (st (mv_ rfl tv (st (c_ (clenO (e := eDPair) (l0 := p16) rfl rfl tv) (st (c_ (cp_ t3 rfl tv) (oe_ (wk_ ⟨[(0, .own 2097152 0 2 (p16.map eDPair)), (1, iV p17), (5, iV p18), (9, .bool (decide (p18 < (p16.length : Int))))], [], []⟩ (fgk (by kernel_rfl)) (ite_ (cb := (decide (p18 < (p16.length : Int)))) rfl (fun c39 => ?_) (fun c39 => ?_))))))))))))))
  ·replace h1 := ip c39 h1
   refine sk_ (wk_ ⟨[(0, .own 2097152 0 2 (p16.map eDPair)), (1, iV p17), (5, iV p18)], [], []⟩ (fgk (by kernel_rfl)) (seq_ (block_ (seq_ (reg_ (st (mv_ rfl tv (st (mv_ rfl tv (st (mv_ rfl tv ?_)))))))))))
   obtain ⟨r40, e41, h1⟩ := bnd h1
   refine st (call0_ (r := .str r40) false (H316 p17 r40 e41) ⟨tv, tv⟩ rfl rfl (fun _ => rfl) ?_)
   obtain ⟨y42, e43, h1⟩ := bnd h1
   refine st (c_ (cidxO (e := eDPair) (y := y42) rfl rfl tv rfl rfl tv e43) (st (c_ (cp_ ⟨tv, tv⟩ rfl tv) ?_)))
   obtain ⟨y44, e45, h1⟩ := bnd h1
   refine st (sto_ (y' := (DPair.mk r40 y44.value)) rfl rfl tv rfl rfl rfl rfl e45 (nl rfl) rfl rfl rfl rfl (oe_ (wk_ ⟨[(0, .own 2097152 0 2 ((p16.set p18.toNat (DPair.mk r40 y44.value)).map eDPair)), (1, iV p17), (5, iV p18)], [], []⟩ (fg ⟨(congrArg (fun z => some ((.own 2097152 0 2 z : V))) overlay_map), rfl, rfl, tv⟩ tv) (seq_ (reg_ (st (mv_ rfl tv (st (c_ (cp_ t3 rfl tv) (st (mv_ rfl tv (oe_ (wk_ ⟨[(0, .own 2097152 0 2 ((p16.set p18.toNat (DPair.mk r40 y44.value)).map eDPair)), (1, iV (IntKind.i64.wrap (p17 + 1))), (5, iV p18)], [], []⟩ (fgk (by kernel_rfl)) (seq_ (reg_ (st (mv_ rfl tv (st (mv_ rfl tv (st (mv_ rfl tv ?_)))))))))))))))))))))
   obtain ⟨r46, e47, h1⟩ := bnd h1
   refine st (call0_ (r := .str r46) false (H316 (IntKind.i64.wrap (p17 + 1)) r46 e47) ⟨tv, tv⟩ rfl rfl (fun _ => rfl) ?_)
   obtain ⟨y48, e49, h1⟩ := bnd h1
   refine st (c_ (cidxO (e := eDPair) (y := y48) rfl rfl tv rfl rfl tv e49) (st (c_ (cp_ ⟨tv, tv⟩ rfl tv) ?_)))
   obtain ⟨y50, e51, h1⟩ := bnd h1
   refine st (sto_ (y' := (DPair.mk y50.key r46)) rfl rfl tv rfl rfl rfl rfl e51 (nl rfl) rfl rfl rfl rfl (oe_ (wk_ ⟨[(0, .own 2097152 0 2 (((p16.set p18.toNat (DPair.mk r40 y44.value)).set p18.toNat (DPair.mk y50.key r46)).map eDPair)), (1, iV (IntKind.i64.wrap (p17 + 1))), (5, iV p18)], [], []⟩ (fg ⟨(congrArg (fun z => some ((.own 2097152 0 2 z : V))) overlay_map), rfl, rfl, tv⟩ tv) (reg_ (st (mv_ rfl tv (st (c_ (cp_ t3 rfl tv) (st (mv_ rfl tv (oe_ (bn_ ?_))))))))))))
   obtain ⟨v52, e53, h1⟩ := bl h1
   refine wk_ ⟨[(0, .own 2097152 0 2 (v52.map eDPair)), (1, iV (IntKind.i64.wrap ((IntKind.i64.wrap (p17 + 1)) + 1))), (5, iV p18)], [], []⟩ (fgk (by subst e53; kernel_rfl)) (reg_ (st (mv_ rfl tv (st (c_ (cp_ t3 rfl tv) (st (mv_ rfl tv (oe_ ?_))))))))
   obtain rfl := Option.some.inj h1
   exact hK1 _ rfl _ ⟨[(0, .own 2097152 0 2 (v52.map eDPair)), (1, iV (IntKind.i64.wrap ((IntKind.i64.wrap (p17 + 1)) + 1))), (5, iV (IntKind.i64.wrap (p18 + 1)))], [], []⟩ (fgk (by kernel_rfl)) rfl
  ·replace h1 := inb c39 h1
   obtain rfl := Option.some.inj h1
   obtain rfl := hx1 _ rfl
   refine exQ rfl ?_
   exact hE1 _ ⟨[(0, .own 2097152 0 2 (p16.map eDPair)), (1, iV p17)], [], []⟩ (fgk (by kernel_rfl)) ⟨_, _, rfl, rfl⟩

/- loop.example/g00149/laws.heldPairS -/
def c254_r0 : List Ins := [⟨some 4, .p (.mv (.c (iV 0))), none⟩]
def c254_r1 : List Ins := [⟨some 5, .p (.mv (.c (iV 0))), none⟩]
def c254_r2 : List Ins := [(iQ 6 (.mv (.t 5))),
(iQ 7 (.mv (.t 0))),
(iQ 8 (.len (.t 7))),
(iQ 9 (.bin .lss (.t 6) (.t 8)))]
def c254_r3 : DP := (.take (iQ 12 (.mv (.t 0)))
(.take (iQ 13 (.mv (.t 5)))
(.take (iQ 14 (.idxA (.t 12) (.t 13) 2))
(.take (iQ 15 (.fieldA (.t 14) 0))
(.take (iQ 16 (.load (.t 15) 1 false))
(.take (iQ 17 (.mv (.t 1)))
(.alt [(iQ 16 (.load (.t 15) 1 false)), (iQ 15 (.fieldA (.t 14) 0)), (iQ 14 (.idxA (.t 12) (.t 13) 2)), (iQ 13 (.mv (.t 5))), (iQ 12 (.mv (.t 0)))] ⟨some 18, .call 316 [(.t 17)], none⟩
(.take (iQ 19 (.bin .neq (.t 16) (.t 18)))
.fin)
.stop)))))))
def c254_r4 : List Ins := [⟨some 4, .p (.mv (.c (iV (-1)))), none⟩]
def c254_r5 : List Ins := [(iQ 20 (.mv (.t 1))),
⟨some 21, .p (.bin .add (.t 20) (.c (iV 1))), none⟩,
(iQ 1 (.mv (.t 21)))]
def c254_r6 : DP := (.take (iQ 22 (.mv (.t 0)))
(.take (iQ 23 (.mv (.t 5)))
(.take (iQ 24 (.idxA (.t 22) (.t 23) 2))
(.take (iQ 25 (.fieldA (.t 24) 1))
(.take (iQ 26 (.load (.t 25) 1 false))
(.take (iQ 27 (.mv (.t 1)))
(.alt [(iQ 26 (.load (.t 25) 1 false)), (iQ 25 (.fieldA (.t 24) 1)), (iQ 24 (.idxA (.t 22) (.t 23) 2)), (iQ 23 (.mv (.t 5))), (iQ 22 (.mv (.t 0)))] ⟨some 28, .call 316 [(.t 27)], none⟩
(.take (iQ 29 (.bin .neq (.t 26) (.t 28)))
.fin)
.stop)))))))
def c254_r7 : List Ins := [⟨some 4, .p (.mv (.c (iV (-1)))), none⟩]
def c254_r8 : List Ins := [(iQ 30 (.mv (.t 1))),
⟨some 31, .p (.bin .add (.t 30) (.c (iV 1))), none⟩,
(iQ 1 (.mv (.t 31)))]
def c254_r9 : List Ins := [(iQ 10 (.mv (.t 5))),
⟨some 11, .p (.bin .add (.t 10) (.c (iV 1))), none⟩,
(iQ 5 (.mv (.t 11)))]
def c254_l0 : IR := (.seq (.seq (.reg c254_r2) (.ite (.t 9) .skip (.exit 0))) (.seq (.block 1 (.seq (.seq (.draw c254_r3) (.ite (.t 19) (.seq (.reg c254_r4) .ret) .skip)) (.seq (.reg c254_r5) (.seq (.seq (.draw c254_r6) (.ite (.t 29) (.seq (.reg c254_r7) .ret) .skip)) (.reg c254_r8))))) (.reg c254_r9)))
def c254_r10 : List Ins := [(iQ 32 (.mv (.t 1))),
(iQ 4 (.mv (.t 32)))]
def c254 : XFn := { np := 2, nt := 33, res := [.t 4], body := (.seq (.reg c254_r0) (.seq (.seq (.reg c254_r1) (.block 0 (.loop c254_l0))) (.seq (.reg c254_r10) .ret))) }
def K254 (C : CRel) : Prop := ∀ (a0 : List DPair) (a1 : Int) (r : Int), g254 a0 a1 = some r → C 254 ⟨[.lst 2 (a0.map eDPair), iV a1], []⟩ ⟨iV r, [], []⟩
theorem F254 {C : CRel} (H316 : K316 C) (a0 : List DPair) (a1 : Int) (r : Int) (h0 : g254 a0 a1 = some r) : FnOK C c254 ⟨[.lst 2 (a0.map eDPair), iV a1], []⟩ ⟨iV r, [], []⟩ := by
 refine fn_ (nl rfl) (seq_ (reg_ (st (mvc_ tv (oe_ (wk_ ⟨[(0, .lst 2 (a0.map eDPair)), (1, iV a1)], [], []⟩ (fgk (by kernel_rfl)) (seq_ (seq_ (reg_ (st (mvc_ tv (oe_ (wk_ ⟨[(0, .lst 2 (a0.map eDPair)), (1, iV a1), (5, iV 0)], [], []⟩ (fgk (by kernel_rfl)) (block_ ?_))))))))))))))
 obtain ⟨r39, e40, h0⟩ := bnd h0
 refine loop_ (R := (fun S => ∃ p27 : Int, .inl p27 = r39 ∧ S = ⟨[(1, iV p27)], [], []⟩)) (g254_l0 a0) (fun s S => match s with | (p12, p13) => S = ⟨[(0, .lst 2 (a0.map eDPair)), (1, iV p12), (5, iV p13)], [], []⟩) e40 ⟨[(0, .lst 2 (a0.map eDPair)), (1, iV a1), (5, iV 0)], [], []⟩ (fgk (by kernel_rfl)) rfl 0 (fun _ => rfl) ?_ ?_
 ·rintro S _ hfg ⟨p27, rfl, rfl⟩
  refine wk_ ⟨[(1, iV p27)], [], []⟩ (fglk hfg (by kernel_rfl)) (seq_ (reg_ (st (mv_ rfl tv (st (mv_ rfl tv (oe_ (wk_ ⟨[(4, iV p27)], [], []⟩ (fgk (by kernel_rfl)) ?_))))))))
  obtain rfl := Option.some.inj h0
  exact rt_ (ret_ rfl rfl rfl rfl rfl tv)
 ·rintro ⟨p12, p13⟩ o1 _ K1 rfl h1 hx1 hK1 hE1 hR1
  refine seq_ (seq_ (reg_ (st (mv_ rfl tv (st (mv_ rfl tv (st (c_ (clenL (e := eDPair) (l0 := a0) rfl rfl tv) (st (c_ (cp_ t3 rfl tv) (oe_ (wk_ ⟨[(0, .lst 2 (a0.map eDPair)), (1, iV p12), (5, iV p13), (9, .bool (decide (p13 < (a0.length : Int))))], [], []⟩ (fgk (by kernel_rfl)) (ite_ (cb := (decide (p13 < (a0.length : Int)))) rfl (fun c28 => ?_) (fun c28 => ?_))))))))))))))
  ·replace h1 := ip c28 h1
   refine sk_ (wk_ ⟨[(0, .lst 2 (a0.map eDPair)), (1, iV p12), (5, iV p13)], [], []⟩ (fgk (by kernel_rfl)) (seq_ (block_ (seq_ (seq_ ?_)))))
   obtain ⟨y29, e30, h1⟩ := bnd h1
   obtain ⟨r31, e32, h1⟩ := bnd h1
   refine draw_ (dtake tv (mv_ rfl tv (⟨tv, (dtake tv (mv_ rfl tv (⟨tv, (dtake tv (c_ (cidxL (e := eDPair) (y := y29) rfl rfl tv rfl rfl tv e30) (⟨tv, (dtake tv (c_ (cp_ ⟨tv, tv⟩ rfl (nl rfl)) (⟨tv, (dtake tv (c_ (cp_ ⟨tv, tv⟩ rfl (nl rfl)) (⟨tv, (dtake tv (mv_ rfl tv (⟨tv, (dalt (call0_ (r := .str r31) false (H316 p12 r31 e32) ⟨tv, tv⟩ rfl rfl (fun _ => rfl) (dkw ⟨[(0, .lst 2 (a0.map eDPair)), (1, iV p12), (5, iV p13), (12, .lst 2 (a0.map eDPair)), (13, iV p13), (14, .iptr [.str y29.key, .str y29.value]), (15, .iptr [.str y29.key, .str y29.value]), (16, .str y29.key), (18, .str r31)], [], []⟩ (fgk (by kernel_rfl)) ⟨[], ⟨⟨.inl tv, (again1 (cp_ ⟨tv, tv⟩ rfl (nl rfl)) rfl)⟩, ⟨.inl tv, (again1 (cp_ ⟨tv, tv⟩ rfl (nl rfl)) rfl)⟩, ⟨.inl tv, (again1 (cidxL (e := eDPair) (y := y29) rfl rfl tv rfl rfl tv e30) rfl)⟩, ⟨.inl tv, (again1 (cmv (v := iV p13) rfl tv) rfl)⟩, ⟨.inl tv, (again1 (cmv (v := .lst 2 (a0.map eDPair)) rfl tv) rfl)⟩, tv⟩, tv, (dtake tv (c_ (cp_ t3 rfl tv) (⟨tv, (dfin (wk_ ⟨[(0, .lst 2 (a0.map eDPair)), (1, iV p12), (5, iV p13), (19, .bool (!(y29.key == r31)))], [], []⟩ (fgk (by kernel_rfl)) (ite_ (cb := (!(y29.key == r31))) rfl (fun c33 => ?_) (fun c33 => ?_))))⟩)))⟩)) dstop)⟩)))⟩)))⟩)))⟩)))⟩)))⟩)))
   ·replace h1 := ip c33 h1
    refine seq_ (reg_ (st (mvc_ tv (oe_ (wk_ ⟨[(4, iV (-1))], [], []⟩ (fgk (by kernel_rfl)) ?_)))))
    obtain rfl := Option.some.inj h1
    obtain rfl := hx1 _ rfl
    obtain rfl := Option.some.inj h0
    exact rt_ (hR1 _ (ret_ rfl rfl rfl rfl rfl tv))
   ·replace h1 := inb c33 h1
    refine sk_ (wk_ ⟨[(0, .lst 2 (a0.map eDPair)), (1, iV p12), (5, iV p13)], [], []⟩ (fgk (by kernel_rfl)) (seq_ (reg_ (st (mv_ rfl tv (st (c_ (cp_ t3 rfl tv) (st (mv_ rfl tv (oe_ (wk_ ⟨[(0, .lst 2 (a0.map eDPair)), (1, iV (IntKind.i64.wrap (p12 + 1))), (5, iV p13)], [], []⟩ (fgk (by kernel_rfl)) (seq_ (seq_ ?_)))))))))))))
    obtain ⟨y34, e35, h1⟩ := bnd h1
    obtain ⟨r36, e37, h1⟩ := bnd h1
    refine draw_ (dtake tv (mv_ rfl tv (⟨tv, (dtake tv (mv_ rfl tv (⟨tv, (dtake tv (c_ (cidxL (e := eDPair) (y := y34) rfl rfl tv rfl rfl tv e35) (⟨tv, (dtake tv (c_ (cp_ ⟨tv, tv⟩ rfl (nl rfl)) (⟨tv, (dtake tv (c_ (cp_ ⟨tv, tv⟩ rfl (nl rfl)) (⟨tv, (dtake tv (mv_ rfl tv (⟨tv, (dalt (call0_ (r := .str r36) false (H316 (IntKind.i64.wrap (p12 + 1)) r36 e37) ⟨tv, tv⟩ rfl rfl (fun _ => rfl) (dkw ⟨[(0, .lst 2 (a0.map eDPair)), (1, iV (IntKind.i64.wrap (p12 + 1))), (5, iV p13), (22, .lst 2 (a0.map eDPair)), (23, iV p13), (24, .iptr [.str y34.key, .str y34.value]), (25, .iptr [.str y34.value]), (26, .str y34.value), (28, .str r36)], [], []⟩ (fgk (by kernel_rfl)) ⟨[], ⟨⟨.inl tv, (again1 (cp_ ⟨tv, tv⟩ rfl (nl rfl)) rfl)⟩, ⟨.inl tv, (again1 (cp_ ⟨tv, tv⟩ rfl (nl rfl)) rfl)⟩, ⟨.inl tv, (again1 (cidxL (e := eDPair) (y := y34) rfl rfl tv rfl rfl tv e35) rfl)⟩, ⟨.inl tv, (again1 (cmv (v := iV p13) rfl tv) rfl)⟩, ⟨.inl tv, (again1 (cmv (v := .lst 2 (a0.map eDPair)) rfl tv) rfl)⟩, tv⟩, tv, (dtake tv (c_ (cp_ t3 rfl tv) (⟨tv, (dfin (wk_ ⟨[(0, .lst 2 (a0.map eDPair)), (1, iV (IntKind.i64.wrap (p12 + 1))), (5, iV p13), (29, .bool (!(y34.value == r36)))], [], []⟩ (fgk (by kernel_rfl)) (ite_ (cb := (!(y34.value == r36))) rfl (fun c38 => ?_) (fun c38 => ?_))))⟩)))⟩)) dstop)⟩)))⟩)))⟩)))⟩)))⟩)))⟩)))
    ·replace h1 := ip c38 h1
     refine seq_ (reg_ (st (mvc_ tv (oe_ (wk_ ⟨[(4, iV (-1))], [], []⟩ (fgk (by kernel_rfl)) ?_)))))
     obtain rfl := Option.some.inj h1
     obtain rfl := hx1 _ rfl
     obtain rfl := Option.some.inj h0
     exact rt_ (hR1 _ (ret_ rfl rfl rfl rfl rfl tv))
    ·replace h1 := inb c38 h1
     refine sk_ (wk_ ⟨[(0, .lst 2 (a0.map eDPair)), (1, iV (IntKind.i64.wrap (p12 + 1))), (5, iV p13)], [], []⟩ (fgk (by kernel_rfl)) (reg_ (st (mv_ rfl tv (st (c_ (cp_ t3 rfl tv) (st (mv_ rfl tv (oe_ (bn_ (wk_ ⟨[(0, .lst 2 (a0.map eDPair)), (1, iV (IntKind.i64.wrap ((IntKind.i64.wrap (p12 + 1)) + 1))), (5, iV p13)], [], []⟩ (fgk (by kernel_rfl)) (reg_ (st (mv_ rfl tv (st (c_ (cp_ t3 rfl tv) (st (mv_ rfl tv (oe_ ?_)))))))))))))))))))
     obtain rfl := Option.some.inj h1
     exact hK1 _ rfl _ ⟨[(0, .lst 2 (a0.map eDPair)), (1, iV (IntKind.i64.wrap ((IntKind.i64.wrap (p12 + 1)) + 1))), (5, iV (IntKind.i64.wrap (p13 + 1)))], [], []⟩ (fgk (by kernel_rfl)) rfl
  ·replace h1 := inb c28 h1
   obtain rfl := Option.some.inj h1
   obtain rfl := hx1 _ rfl
   refine exQ rfl ?_
   exact hE1 _ ⟨[(1, iV p12)], [], []⟩ (fgk (by kernel_rfl)) ⟨_, rfl, rfl⟩
end Go.Ev
