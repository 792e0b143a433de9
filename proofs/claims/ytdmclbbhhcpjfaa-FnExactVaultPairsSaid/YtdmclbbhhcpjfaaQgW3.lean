/- The walks of functions: the code comes to the answers that QgD tells. Written by a program of ours. -/
import Derived.Test.YtdmclbbhhcpjfaaQgW2
set_option linter.all false
set_option maxHeartbeats 4000000
set_option linter.unusedVariables false
set_option maxRecDepth 100000
namespace Go.Ev

/- loop.example/g00149/laws.FnExactVaultPairs -/
def c209_r0 : List Ins := [⟨some 1, .box (.t 0), none⟩,
⟨some 2, .p (.mv (.c (.bool false))), none⟩]
def c209_r1 : List Ins := [⟨some 3, .p (.mv (.c (iV 1048576))), none⟩]
def c209_r2 : List Ins := [(iQ 14 (.load (.t 1) 6 true)),
(iQ 15 (.mv (.t 3))),
⟨some 16, .call 45 [(.t 14), (.t 15)], none⟩,
(iQ 3 (.mv (.t 16)))]
def c209_r3 : List Ins := [(iQ 17 (.mv (.t 3))),
⟨some 18, .p (.bin .lss (.t 17) (.c (iV 0))), none⟩]
def c209_r4 : List Ins := [⟨some 2, .p (.mv (.c (.bool true))), none⟩]
def c209_r5 : List Ins := [(iQ 20 (.load (.t 1) 6 true)),
⟨some 21, .call 47 [(.t 20)], none⟩,
⟨some 22, .call 249 [(.t 21)], none⟩,
(iQ 19 (.mv (.t 22))),
(iQ 23 (.ext (.t 19) 0)),
(iQ 24 (.ext (.t 19) 1)),
(iQ 4 (.mv (.t 23))),
(iQ 5 (.mv (.t 24)))]
def c209_r6 : List Ins := [(iQ 25 (.load (.t 1) 6 true)),
⟨some 26, .call 47 [(.t 25)], none⟩,
⟨some 6, .alloc [(iV 0), (iV 0), (.own 387 0 4 []), (.own 388 0 2 []), (.own 389 0 1 []), (.bool false)], none⟩,
⟨none, .store (.t 6) (.t 26) 6, none⟩]
def c209_r7 : List Ins := [(iQ 28 (.load (.t 6) 6 true)),
⟨some 29, .call 250 [(.t 28)], none⟩,
(iQ 27 (.mv (.t 29))),
(iQ 30 (.ext (.t 27) 0)),
(iQ 31 (.ext (.t 27) 1)),
(iQ 7 (.mv (.t 30))),
(iQ 8 (.mv (.t 31)))]
def c209_r8 : List Ins := [(iQ 32 (.mv (.t 7))),
(iQ 33 (.mv (.t 4))),
⟨some 34, .call 251 [(.t 32), (.t 33)], none⟩,
(iQ 35 (.un .not (.t 34))),
(iQ 36 (.mv (.t 35))),
⟨some 37, .p (.mv (.t 8)), some (36, false)⟩,
⟨some 38, .p (.mv (.t 5)), some (36, false)⟩,
⟨some 39, .p (.bin .neq (.t 37) (.t 38)), some (36, false)⟩,
⟨some 40, .pick (.t 36) (.c (.bool true)) (.t 39), none⟩]
def c209_r9 : List Ins := [⟨some 2, .p (.mv (.c (.bool false))), none⟩]
def c209_r10 : DP := (.take (iQ 41 (.load (.t 6) 6 true))
(.take (iQ 42 (.load (.t 1) 6 true))
(.alt [(iQ 41 (.load (.t 6) 6 true))] ⟨some 43, .call 47 [(.t 42)], none⟩
(.alt [] ⟨some 44, .call 49 [(.t 41), (.t 43)], none⟩
(.take (iQ 45 (.un .not (.t 44)))
.fin)
.stop)
.stop)))
def c209_r11 : List Ins := [⟨some 2, .p (.mv (.c (.bool false))), none⟩]
def c209_r12 : List Ins := [⟨some 9, .p (.mv (.c (iV 1))), none⟩]
def c209_r13 : List Ins := [(iQ 46 (.load (.t 6) 6 true)),
(iQ 47 (.mv (.t 9))),
⟨some 48, .call 252 [(.t 46), (.t 47)], none⟩,
(iQ 9 (.mv (.t 48)))]
def c209_r14 : List Ins := [(iQ 49 (.mv (.t 9))),
⟨some 50, .p (.bin .lss (.t 49) (.c (iV 0))), none⟩,
(iQ 51 (.mv (.t 50))),
⟨some 52, .p (.mv (.t 7)), some (51, false)⟩,
⟨some 53, .p (.mv (.t 4)), some (51, false)⟩,
⟨some 54, .call 251 [(.t 52), (.t 53)], some (51, false)⟩,
⟨some 55, .p (.un .not (.t 54)), some (51, false)⟩,
⟨some 56, .pick (.t 51) (.c (.bool true)) (.t 55), none⟩,
(iQ 57 (.mv (.t 56))),
⟨some 58, .p (.mv (.t 8)), some (57, false)⟩,
⟨some 59, .p (.mv (.t 5)), some (57, false)⟩,
⟨some 60, .p (.bin .neq (.t 58) (.t 59)), some (57, false)⟩,
⟨some 61, .pick (.t 57) (.c (.bool true)) (.t 60), none⟩]
def c209_r15 : List Ins := [⟨some 2, .p (.mv (.c (.bool false))), none⟩]
def c209_r16 : List Ins := [⟨some 10, .p (.mv (.c (iV 1))), none⟩]
def c209_r17 : List Ins := [(iQ 62 (.mv (.t 7))),
(iQ 63 (.mv (.t 10))),
⟨some 64, .call 253 [(.t 62), (.t 63)], none⟩,
(iQ 10 (.mv (.t 64)))]
def c209_r18 : List Ins := [⟨some 11, .p (.mv (.c (iV 1))), none⟩]
def c209_r19 : List Ins := [(iQ 65 (.mv (.t 7))),
(iQ 66 (.mv (.t 11))),
⟨some 67, .call 254 [(.t 65), (.t 66)], none⟩,
(iQ 11 (.mv (.t 67)))]
def c209_r20 : List Ins := [(iQ 68 (.mv (.t 11))),
⟨some 69, .p (.bin .lss (.t 68) (.c (iV 0))), none⟩]
def c209_r21 : List Ins := [⟨some 2, .p (.mv (.c (.bool false))), none⟩]
def c209_r22 : List Ins := [(iQ 70 (.mv (.t 11))),
(iQ 71 (.mv (.t 10))),
(iQ 72 (.bin .neq (.t 70) (.t 71)))]
def c209_r23 : List Ins := [⟨some 2, .p (.mv (.c (.bool false))), none⟩]
def c209_r24 : List Ins := [(iQ 74 (.load (.t 1) 6 true)),
⟨some 75, .call 47 [(.t 74)], none⟩,
⟨some 76, .call 250 [(.t 75)], none⟩,
(iQ 73 (.mv (.t 76))),
(iQ 77 (.ext (.t 73) 0)),
(iQ 78 (.ext (.t 73) 1)),
(iQ 12 (.mv (.t 77))),
(iQ 13 (.mv (.t 78)))]
def c209_r25 : List Ins := [(iQ 79 (.mv (.t 12))),
(iQ 80 (.mv (.t 4))),
⟨some 81, .call 251 [(.t 79), (.t 80)], none⟩,
(iQ 82 (.un .not (.t 81))),
(iQ 83 (.mv (.t 82))),
⟨some 84, .p (.mv (.t 13)), some (83, false)⟩,
⟨some 85, .p (.mv (.t 5)), some (83, false)⟩,
⟨some 86, .p (.bin .neq (.t 84) (.t 85)), some (83, false)⟩,
⟨some 87, .pick (.t 83) (.c (.bool true)) (.t 86), none⟩]
def c209_r26 : List Ins := [⟨some 2, .p (.mv (.c (.bool false))), none⟩]
def c209_r27 : List Ins := [⟨some 11, .p (.mv (.c (iV 1))), none⟩]
def c209_r28 : List Ins := [(iQ 88 (.mv (.t 7))),
(iQ 89 (.mv (.t 11))),
⟨some 90, .call 254 [(.t 88), (.t 89)], none⟩,
(iQ 11 (.mv (.t 90)))]
def c209_r29 : List Ins := [(iQ 91 (.mv (.t 11))),
⟨some 92, .p (.bin .lss (.t 91) (.c (iV 0))), none⟩]
def c209_r30 : List Ins := [⟨some 2, .p (.mv (.c (.bool false))), none⟩]
def c209_r31 : List Ins := [(iQ 93 (.mv (.t 11))),
(iQ 94 (.mv (.t 10))),
(iQ 95 (.bin .neq (.t 93) (.t 94)))]
def c209_r32 : List Ins := [⟨some 2, .p (.mv (.c (.bool false))), none⟩]
def c209_r33 : List Ins := [⟨some 2, .p (.mv (.c (.bool true))), none⟩]
def c209 : XFn := { np := 1, nt := 96, res := [.t 2], body := (.seq (.reg c209_r0) (.seq (.reg c209_r1) (.seq (.reg c209_r2) (.seq (.seq (.reg c209_r3) (.ite (.t 18) (.seq (.reg c209_r4) .ret) .skip)) (.seq (.reg c209_r5) (.seq (.reg c209_r6) (.seq (.reg c209_r7) (.seq (.seq (.reg c209_r8) (.ite (.t 40) (.seq (.reg c209_r9) .ret) .skip)) (.seq (.seq (.draw c209_r10) (.ite (.t 45) (.seq (.reg c209_r11) .ret) .skip)) (.seq (.reg c209_r12) (.seq (.reg c209_r13) (.seq (.seq (.reg c209_r14) (.ite (.t 61) (.seq (.reg c209_r15) .ret) .skip)) (.seq (.reg c209_r16) (.seq (.reg c209_r17) (.seq (.reg c209_r18) (.seq (.reg c209_r19) (.seq (.seq (.reg c209_r20) (.ite (.t 69) (.seq (.reg c209_r21) .ret) .skip)) (.seq (.seq (.reg c209_r22) (.ite (.t 72) (.seq (.reg c209_r23) .ret) .skip)) (.seq (.reg c209_r24) (.seq (.seq (.reg c209_r25) (.ite (.t 87) (.seq (.reg c209_r26) .ret) .skip)) (.seq (.reg c209_r27) (.seq (.reg c209_r28) (.seq (.seq (.reg c209_r29) (.ite (.t 92) (.seq (.reg c209_r30) .ret) .skip)) (.seq (.seq (.reg c209_r31) (.ite (.t 95) (.seq (.reg c209_r32) .ret) .skip)) (.seq (.reg c209_r33) .ret))))))))))))))))))))))))) }
def K209 (C : CRel) : Prop := ∀ (a0 : DVault) (r : Bool), g209 a0 = some r → C 209 ⟨[.agg (eDVault a0)], []⟩ ⟨.bool r, [], []⟩
theorem F209 {C : CRel} (H45 : K45 C) (H47 : K47 C) (H49 : K49 C) (H249 : K249 C) (H250 : K250 C) (H251 : K251 C) (H252 : K252 C) (H253 : K253 C) (H254 : K254 C) (a0 : DVault) (r : Bool) (h0 : g209 a0 = some r) : FnOK C c209 ⟨[.agg (eDVault a0)], []⟩ ⟨.bool r, [], []⟩ := by
 refine fn_ (nl rfl) (seq_ (reg_ (st (box_ rfl tv rfl (st (mvc_ tv (oe_ (wk_ ⟨[(1, .ptr 64 0)], [(64, [iV a0.table.clock, iV a0.table.next, .lst 4 (a0.table.list_.map eDLease), .lst 2 (a0.intents.map eDIntent), .lst 1 (a0.accounts.map eI), .bool a0.sealed])], []⟩ (fgk (by kernel_rfl)) (seq_ (reg_ (st (mvc_ tv (oe_ (wk_ ⟨[(1, .ptr 64 0), (3, iV 1048576)], [(64, [iV a0.table.clock, iV a0.table.next, .lst 4 (a0.table.list_.map eDLease), .lst 2 (a0.intents.map eDIntent), .lst 1 (a0.accounts.map eI), .bool a0.sealed])], []⟩ (fgk (by kernel_rfl)) (seq_ (reg_ (st (c_ (v := .agg (eDVault a0)) (cp_ ⟨tv, tv⟩ rfl (nl rfl)) (st (mv_ rfl tv ?_))))))))))))))))))))
 obtain ⟨r1, e2, h0⟩ := bnd h0
 refine st (call0_ (r := iV r1) false (H45 a0 1048576 r1 e2) ⟨tv, tv, tv⟩ rfl rfl (fun _ => rfl) (st (mv_ rfl tv (oe_ (wk_ ⟨[(1, .ptr 64 0), (3, iV r1)], [(64, [iV a0.table.clock, iV a0.table.next, .lst 4 (a0.table.list_.map eDLease), .lst 2 (a0.intents.map eDIntent), .lst 1 (a0.accounts.map eI), .bool a0.sealed])], []⟩ (fgk (by kernel_rfl)) (seq_ (seq_ (reg_ (st (mv_ rfl tv (st (c_ (cp_ t3 rfl tv) (oe_ (wk_ ⟨[(1, .ptr 64 0), (18, .bool (decide (r1 < 0)))], [(64, [iV a0.table.clock, iV a0.table.next, .lst 4 (a0.table.list_.map eDLease), .lst 2 (a0.intents.map eDIntent), .lst 1 (a0.accounts.map eI), .bool a0.sealed])], []⟩ (fgk (by kernel_rfl)) (ite_ (cb := (decide (r1 < 0))) rfl (fun c3 => ?_) (fun c3 => ?_))))))))))))))))
 ·replace h0 := ip c3 h0
  refine seq_ (reg_ (st (mvc_ tv (oe_ (wk_ ⟨[(2, .bool true)], [], []⟩ (fgk (by kernel_rfl)) ?_)))))
  obtain rfl := Option.some.inj h0
  exact rt_ (ret_ rfl rfl rfl rfl rfl tv)
 ·replace h0 := inb c3 h0
  refine sk_ (wk_ ⟨[(1, .ptr 64 0)], [(64, [iV a0.table.clock, iV a0.table.next, .lst 4 (a0.table.list_.map eDLease), .lst 2 (a0.intents.map eDIntent), .lst 1 (a0.accounts.map eI), .bool a0.sealed])], []⟩ (fgk (by kernel_rfl)) (seq_ (reg_ (st (c_ (v := .agg (eDVault a0)) (cp_ ⟨tv, tv⟩ rfl (nl rfl)) ?_)))))
  obtain ⟨r4, e5, h0⟩ := bnd h0
  refine st (call0_ (r := .agg [iV r4.table.clock, iV r4.table.next, .own 0 0 4 (r4.table.list_.map eDLease), .own 1 0 2 (r4.intents.map eDIntent), .own 2 0 1 (r4.accounts.map eI), .bool r4.sealed]) false (H47 a0 r4 e5) ⟨tv, tv⟩ rfl rfl (fun _ => (and_ rfl (and_ rfl (and_ (fl1 (fun _ => rfl)) (and_ (fl1 (fun _ => rfl)) (and_ (fl1 (fun _ => rfl)) (and_ rfl rfl))))))) ?_)
  obtain ⟨r6, e7, h0⟩ := bnd h0
  refine st (call0_ (r := .tup [.own 0 0 2 (r6.1.map eDPair), iV r6.2]) false (H249 r4 r6 e7) ⟨tv, tv⟩ rfl rfl (fun _ => (and_ (fl1 (fun _ => rfl)) (and_ rfl rfl))) (st (mv_ rfl tv (st (c_ (cp_ ⟨tv, tv⟩ rfl tv) (st (c_ (cp_ ⟨tv, tv⟩ rfl tv) (st (mv_ rfl tv (st (mv_ rfl tv (oe_ (wk_ ⟨[(1, .ptr 64 0), (4, .own 1408 0 2 (r6.1.map eDPair)), (5, iV r6.2)], [(64, [iV a0.table.clock, iV a0.table.next, .lst 4 (a0.table.list_.map eDLease), .lst 2 (a0.intents.map eDIntent), .lst 1 (a0.accounts.map eI), .bool a0.sealed])], []⟩ (fgk (by kernel_rfl)) (seq_ (reg_ (st (c_ (v := .agg (eDVault a0)) (cp_ ⟨tv, tv⟩ rfl (nl rfl)) ?_)))))))))))))))))
  obtain ⟨r8, e9, h0⟩ := bnd h0
  refine st (call0_ (r := .agg [iV r8.table.clock, iV r8.table.next, .own 0 0 4 (r8.table.list_.map eDLease), .own 1 0 2 (r8.intents.map eDIntent), .own 2 0 1 (r8.accounts.map eI), .bool r8.sealed]) false (H47 a0 r8 e9) ⟨tv, tv⟩ rfl rfl (fun _ => (and_ rfl (and_ rfl (and_ (fl1 (fun _ => rfl)) (and_ (fl1 (fun _ => rfl)) (and_ (fl1 (fun _ => rfl)) (and_ rfl rfl))))))) (st (alloc_ (st (stp_ rfl rfl tv rfl rfl rfl (nl rfl) (oe_ (wk_ ⟨[(1, .ptr 64 0), (4, .own 1408 0 2 (r6.1.map eDPair)), (5, iV r6.2), (6, .ptr 384 0)], [(64, [iV a0.table.clock, iV a0.table.next, .lst 4 (a0.table.list_.map eDLease), .lst 2 (a0.intents.map eDIntent), .lst 1 (a0.accounts.map eI), .bool a0.sealed]), (384, [iV r8.table.clock, iV r8.table.next, .own 1664 0 4 (r8.table.list_.map eDLease), .own 1665 0 2 (r8.intents.map eDIntent), .own 1666 0 1 (r8.accounts.map eI), .bool r8.sealed])], []⟩ (fgk (by kernel_rfl)) (seq_ (reg_ (st (c_ (v := .agg [iV r8.table.clock, iV r8.table.next, .own 1664 0 4 (r8.table.list_.map eDLease), .own 1665 0 2 (r8.intents.map eDIntent), .own 1666 0 1 (r8.accounts.map eI), .bool r8.sealed]) (cp_ ⟨tv, tv⟩ rfl (nl rfl)) ?_)))))))))))
  obtain ⟨r10, e11, h0⟩ := bnd h0
  refine st (call0_ (r := .tup [.own 0 0 2 (r10.1.map eDPair), iV r10.2]) false (H250 r8 r10 e11) ⟨tv, tv⟩ rfl rfl (fun _ => (and_ (fl1 (fun _ => rfl)) (and_ rfl rfl))) (st (mv_ rfl tv (st (c_ (cp_ ⟨tv, tv⟩ rfl tv) (st (c_ (cp_ ⟨tv, tv⟩ rfl tv) (st (mv_ rfl tv (st (mv_ rfl tv (oe_ (wk_ ⟨[(1, .ptr 64 0), (4, .own 1408 0 2 (r6.1.map eDPair)), (5, iV r6.2), (6, .ptr 384 0), (7, .own 1856 0 2 (r10.1.map eDPair)), (8, iV r10.2)], [(64, [iV a0.table.clock, iV a0.table.next, .lst 4 (a0.table.list_.map eDLease), .lst 2 (a0.intents.map eDIntent), .lst 1 (a0.accounts.map eI), .bool a0.sealed]), (384, [iV r8.table.clock, iV r8.table.next, .own 1664 0 4 (r8.table.list_.map eDLease), .own 1665 0 2 (r8.intents.map eDIntent), .own 1666 0 1 (r8.accounts.map eI), .bool r8.sealed])], []⟩ (fgk (by kernel_rfl)) (seq_ (seq_ (reg_ (st (mv_ rfl tv (st (mv_ rfl tv ?_))))))))))))))))))))
  obtain ⟨r12, e13, h0⟩ := bnd h0
  refine st (call0_ (r := .bool r12) false (H251 r10.1 r6.1 r12 e13) ⟨tv, tv, tv⟩ rfl rfl (fun _ => rfl) (st (c_ (cp_ ⟨tv, tv⟩ rfl tv) (st (mv_ rfl tv (st (pg_ (u := iV r10.2) rfl (fun hg => (cmv (v := iV r10.2) rfl tv)) (st (pg_ (u := iV r6.2) rfl (fun hg => (cmv (v := iV r6.2) rfl tv)) (st (pg_ (u := .bool (r10.2 != r6.2)) rfl (fun hg => (cp_ ⟨(fun _ => hg), (fun _ => hg), tv⟩ rfl tv)) (st (pick_ rfl rfl rfl tv (fun h => eqf h) rfl (oe_ (wk_ ⟨[(1, .ptr 64 0), (4, .own 1408 0 2 (r6.1.map eDPair)), (5, iV r6.2), (6, .ptr 384 0), (7, .own 1856 0 2 (r10.1.map eDPair)), (8, iV r10.2), (40, .bool (bif (!r12) then true else (r10.2 != r6.2)))], [(64, [iV a0.table.clock, iV a0.table.next, .lst 4 (a0.table.list_.map eDLease), .lst 2 (a0.intents.map eDIntent), .lst 1 (a0.accounts.map eI), .bool a0.sealed]), (384, [iV r8.table.clock, iV r8.table.next, .own 1664 0 4 (r8.table.list_.map eDLease), .own 1665 0 2 (r8.intents.map eDIntent), .own 1666 0 1 (r8.accounts.map eI), .bool r8.sealed])], []⟩ (fgk (by kernel_rfl)) (ite_ (cb := (bif (!r12) then true else (r10.2 != r6.2))) rfl (fun c14 => ?_) (fun c14 => ?_)))))))))))))))))
  ·replace h0 := ip c14 h0
   refine seq_ (reg_ (st (mvc_ tv (oe_ (wk_ ⟨[(2, .bool false)], [], []⟩ (fgk (by kernel_rfl)) ?_)))))
   obtain rfl := Option.some.inj h0
   exact rt_ (ret_ rfl rfl rfl rfl rfl tv)
  ·replace h0 := inb c14 h0
   refine sk_ (wk_ ⟨[(1, .ptr 64 0), (4, .own 1408 0 2 (r6.1.map eDPair)), (5, iV r6.2), (6, .ptr 384 0), (7, .own 1856 0 2 (r10.1.map eDPair)), (8, iV r10.2)], [(64, [iV a0.table.clock, iV a0.table.next, .lst 4 (a0.table.list_.map eDLease), .lst 2 (a0.intents.map eDIntent), .lst 1 (a0.accounts.map eI), .bool a0.sealed]), (384, [iV r8.table.clock, iV r8.table.next, .own 1664 0 4 (r8.table.list_.map eDLease), .own 1665 0 2 (r8.intents.map eDIntent), .own 1666 0 1 (r8.accounts.map eI), .bool r8.sealed])], []⟩ (fgk (by kernel_rfl)) (seq_ (seq_ ?_)))
   obtain ⟨r15, e16, h0⟩ := bnd h0
   obtain ⟨r17, e18, h0⟩ := bnd h0
   refine draw_ (dtake tv (c_ (v := .agg [iV r8.table.clock, iV r8.table.next, .own 1664 0 4 (r8.table.list_.map eDLease), .own 1665 0 2 (r8.intents.map eDIntent), .own 1666 0 1 (r8.accounts.map eI), .bool r8.sealed]) (cp_ ⟨tv, tv⟩ rfl (nl rfl)) (⟨tv, (dtake tv (c_ (v := .agg (eDVault a0)) (cp_ ⟨tv, tv⟩ rfl (nl rfl)) (⟨tv, (dalt (call0_ (r := .agg [iV r15.table.clock, iV r15.table.next, .own 0 0 4 (r15.table.list_.map eDLease), .own 1 0 2 (r15.intents.map eDIntent), .own 2 0 1 (r15.accounts.map eI), .bool r15.sealed]) false (H47 a0 r15 e16) ⟨tv, tv⟩ rfl rfl (fun _ => (and_ rfl (and_ rfl (and_ (fl1 (fun _ => rfl)) (and_ (fl1 (fun _ => rfl)) (and_ (fl1 (fun _ => rfl)) (and_ rfl rfl))))))) (dkw ⟨[(1, .ptr 64 0), (4, .own 1408 0 2 (r6.1.map eDPair)), (5, iV r6.2), (6, .ptr 384 0), (7, .own 1856 0 2 (r10.1.map eDPair)), (8, iV r10.2), (41, .agg [iV r8.table.clock, iV r8.table.next, .own 1664 0 4 (r8.table.list_.map eDLease), .own 1665 0 2 (r8.intents.map eDIntent), .own 1666 0 1 (r8.accounts.map eI), .bool r8.sealed]), (43, .agg [iV r15.table.clock, iV r15.table.next, .own 2752 0 4 (r15.table.list_.map eDLease), .own 2753 0 2 (r15.intents.map eDIntent), .own 2754 0 1 (r15.accounts.map eI), .bool r15.sealed])], [(64, [iV a0.table.clock, iV a0.table.next, .lst 4 (a0.table.list_.map eDLease), .lst 2 (a0.intents.map eDIntent), .lst 1 (a0.accounts.map eI), .bool a0.sealed]), (384, [iV r8.table.clock, iV r8.table.next, .own 1664 0 4 (r8.table.list_.map eDLease), .own 1665 0 2 (r8.intents.map eDIntent), .own 1666 0 1 (r8.accounts.map eI), .bool r8.sealed])], []⟩ (fgk (by kernel_rfl)) ⟨[], ⟨⟨.inl tv, (again1 (cp_ ⟨tv, tv⟩ rfl (nl rfl)) rfl)⟩, tv⟩, tv, (dalt (call0_ (r := .bool r17) false (H49 r8 r15 r17 e18) ⟨tv, tv, tv⟩ rfl rfl (fun _ => rfl) (dkw ⟨[(1, .ptr 64 0), (4, .own 1408 0 2 (r6.1.map eDPair)), (5, iV r6.2), (6, .ptr 384 0), (7, .own 1856 0 2 (r10.1.map eDPair)), (8, iV r10.2), (44, .bool r17)], [(64, [iV a0.table.clock, iV a0.table.next, .lst 4 (a0.table.list_.map eDLease), .lst 2 (a0.intents.map eDIntent), .lst 1 (a0.accounts.map eI), .bool a0.sealed]), (384, [iV r8.table.clock, iV r8.table.next, .own 1664 0 4 (r8.table.list_.map eDLease), .own 1665 0 2 (r8.intents.map eDIntent), .own 1666 0 1 (r8.accounts.map eI), .bool r8.sealed])], []⟩ (fgk (by kernel_rfl)) ⟨[], tv, tv, (dtake tv (c_ (cp_ ⟨tv, tv⟩ rfl tv) (⟨tv, (dfin (wk_ ⟨[(1, .ptr 64 0), (4, .own 1408 0 2 (r6.1.map eDPair)), (5, iV r6.2), (6, .ptr 384 0), (7, .own 1856 0 2 (r10.1.map eDPair)), (8, iV r10.2), (45, .bool (!r17))], [(64, [iV a0.table.clock, iV a0.table.next, .lst 4 (a0.table.list_.map eDLease), .lst 2 (a0.intents.map eDIntent), .lst 1 (a0.accounts.map eI), .bool a0.sealed]), (384, [iV r8.table.clock, iV r8.table.next, .own 1664 0 4 (r8.table.list_.map eDLease), .own 1665 0 2 (r8.intents.map eDIntent), .own 1666 0 1 (r8.accounts.map eI), .bool r8.sealed])], []⟩ (fgk (by kernel_rfl)) (ite_ (cb := (!r17)) rfl (fun c19 => ?_) (fun c19 => ?_))))⟩)))⟩)) dstop)⟩)) dstop)⟩)))⟩)))
   ·replace h0 := ip c19 h0
    refine seq_ (reg_ (st (mvc_ tv (oe_ (wk_ ⟨[(2, .bool false)], [], []⟩ (fgk (by kernel_rfl)) ?_)))))
    obtain rfl := Option.some.inj h0
    exact rt_ (ret_ rfl rfl rfl rfl rfl tv)
   ·replace h0 := inb c19 h0
    refine sk_ (wk_ ⟨[(1, .ptr 64 0), (4, .own 1408 0 2 (r6.1.map eDPair)), (5, iV r6.2), (6, .ptr 384 0), (7, .own 1856 0 2 (r10.1.map eDPair)), (8, iV r10.2)], [(64, [iV a0.table.clock, iV a0.table.next, .lst 4 (a0.table.list_.map eDLease), .lst 2 (a0.intents.map eDIntent), .lst 1 (a0.accounts.map eI), .bool a0.sealed]), (384, [iV r8.table.clock, iV r8.table.next, .own 1664 0 4 (r8.table.list_.map eDLease), .own 1665 0 2 (r8.intents.map eDIntent), .own 1666 0 1 (r8.accounts.map eI), .bool r8.sealed])], []⟩ (fgk (by kernel_rfl)) (seq_ (reg_ (st (mvc_ tv (oe_ (wk_ ⟨[(1, .ptr 64 0), (4, .own 1408 0 2 (r6.1.map eDPair)), (5, iV r6.2), (6, .ptr 384 0), (7, .own 1856 0 2 (r10.1.map eDPair)), (8, iV r10.2), (9, iV 1)], [(64, [iV a0.table.clock, iV a0.table.next, .lst 4 (a0.table.list_.map eDLease), .lst 2 (a0.intents.map eDIntent), .lst 1 (a0.accounts.map eI), .bool a0.sealed]), (384, [iV r8.table.clock, iV r8.table.next, .own 1664 0 4 (r8.table.list_.map eDLease), .own 1665 0 2 (r8.intents.map eDIntent), .own 1666 0 1 (r8.accounts.map eI), .bool r8.sealed])], []⟩ (fgk (by kernel_rfl)) (seq_ (reg_ (st (c_ (v := .agg [iV r8.table.clock, iV r8.table.next, .own 1664 0 4 (r8.table.list_.map eDLease), .own 1665 0 2 (r8.intents.map eDIntent), .own 1666 0 1 (r8.accounts.map eI), .bool r8.sealed]) (cp_ ⟨tv, tv⟩ rfl (nl rfl)) (st (mv_ rfl tv ?_)))))))))))))
    obtain ⟨r20, e21, h0⟩ := bnd h0
    obtain ⟨c22, h0⟩ := grd h0
    obtain ⟨c23, h0⟩ := grd h0
    obtain ⟨c24, h0⟩ := grd h0
    refine st (call1_ [] [1664, 1665, 1666] [] false (H252 r8 1 r20 e21) ⟨tv, tv, tv⟩ (by kernel_rfl) (by kernel_rfl) (by kernel_rfl) (by kernel_rfl) (fun _ => and_ rfl (and_ (fl2 (fun _ => rfl)) (and_ (fl2 (fun _ => rfl)) (and_ (fl2 (fun _ => rfl)) rfl)))) (sw ⟨[(1, .ptr 64 0), (4, .own 1408 0 2 (r6.1.map eDPair)), (5, iV r6.2), (7, .own 1856 0 2 (r10.1.map eDPair)), (8, iV r10.2), (48, iV r20.1)], [(64, [iV a0.table.clock, iV a0.table.next, .lst 4 (a0.table.list_.map eDLease), .lst 2 (a0.intents.map eDIntent), .lst 1 (a0.accounts.map eI), .bool a0.sealed])], []⟩ (fgk (by kernel_rfl)) (mv_ rfl tv (oe_ (wk_ ⟨[(1, .ptr 64 0), (4, .own 1408 0 2 (r6.1.map eDPair)), (5, iV r6.2), (7, .own 1856 0 2 (r10.1.map eDPair)), (8, iV r10.2), (9, iV r20.1)], [(64, [iV a0.table.clock, iV a0.table.next, .lst 4 (a0.table.list_.map eDLease), .lst 2 (a0.intents.map eDIntent), .lst 1 (a0.accounts.map eI), .bool a0.sealed])], []⟩ (fgk (by kernel_rfl)) (seq_ (seq_ (reg_ (st (mv_ rfl tv (st (c_ (cp_ t3 rfl tv) (st (mv_ rfl tv (st (pg_ (u := .own 1856 0 2 (r10.1.map eDPair)) rfl (fun hg => (cmv (v := .own 1856 0 2 (r10.1.map eDPair)) rfl tv)) (st (pg_ (u := .own 1408 0 2 (r6.1.map eDPair)) rfl (fun hg => (cmv (v := .own 1408 0 2 (r6.1.map eDPair)) rfl tv)) ?_))))))))))))))))))
    obtain ⟨r25, e26, h0⟩ := bnd h0
    refine st (callg_ (r := .bool r25) rfl false (fun hg => H251 r10.1 r6.1 r25 (ip hg e26)) ⟨(fun hg => hg), (fun hg => hg), tv⟩ (fun _ => rfl) (fun _ => rfl) (fun _ => rfl) (fun h => nomatch h) (st (pg_ (u := .bool (!r25)) rfl (fun hg => (cp_ ⟨(fun _ => hg), tv⟩ rfl tv)) (st (pick_ rfl rfl rfl tv (fun h => eqf h) rfl (st (mv_ rfl tv (st (pg_ (u := iV r10.2) rfl (fun hg => (cmv (v := iV r10.2) rfl tv)) (st (pg_ (u := iV r6.2) rfl (fun hg => (cmv (v := iV r6.2) rfl tv)) (st (pg_ (u := .bool (r10.2 != r6.2)) rfl (fun hg => (cp_ ⟨(fun _ => hg), (fun _ => hg), tv⟩ rfl tv)) (sw ⟨[(1, .ptr 64 0), (4, .own 1408 0 2 (r6.1.map eDPair)), (5, iV r6.2), (7, .own 1856 0 2 (r10.1.map eDPair)), (57, .bool (bif (decide (r20.1 < 0)) then true else (!r25))), (60, .may ((bif (decide (r20.1 < 0)) then true else (!r25)) == false) (.bool (r10.2 != r6.2)))], [(64, [iV a0.table.clock, iV a0.table.next, .lst 4 (a0.table.list_.map eDLease), .lst 2 (a0.intents.map eDIntent), .lst 1 (a0.accounts.map eI), .bool a0.sealed])], []⟩ (fgk (by kernel_rfl)) (pick_ rfl rfl rfl tv (fun h => eqf h) rfl (oe_ ?_))))))))))))))))
    obtain ⟨v27, e28, h0⟩ := bl h0
    refine wk_ ⟨[(1, .ptr 64 0), (4, .own 1408 0 2 (r6.1.map eDPair)), (5, iV r6.2), (7, .own 1856 0 2 (r10.1.map eDPair)), (61, .bool v27)], [(64, [iV a0.table.clock, iV a0.table.next, .lst 4 (a0.table.list_.map eDLease), .lst 2 (a0.intents.map eDIntent), .lst 1 (a0.accounts.map eI), .bool a0.sealed])], []⟩ (fgk (by subst e28; kernel_rfl)) (ite_ (cb := v27) rfl (fun c29 => ?_) (fun c29 => ?_))
    ·replace h0 := ip c29 h0
     refine seq_ (reg_ (st (mvc_ tv (oe_ (wk_ ⟨[(2, .bool false)], [], []⟩ (fgk (by kernel_rfl)) ?_)))))
     obtain rfl := Option.some.inj h0
     exact rt_ (ret_ rfl rfl rfl rfl rfl tv)
    ·replace h0 := inb c29 h0
     refine sk_ (wk_ ⟨[(1, .ptr 64 0), (4, .own 1408 0 2 (r6.1.map eDPair)), (5, iV r6.2), (7, .own 1856 0 2 (r10.1.map eDPair))], [(64, [iV a0.table.clock, iV a0.table.next, .lst 4 (a0.table.list_.map eDLease), .lst 2 (a0.intents.map eDIntent), .lst 1 (a0.accounts.map eI), .bool a0.sealed])], []⟩ (fgk (by kernel_rfl)) (seq_ (reg_ (st (mvc_ tv (oe_ (wk_ ⟨[(1, .ptr 64 0), (4, .own 1408 0 2 (r6.1.map eDPair)), (5, iV r6.2), (7, .own 1856 0 2 (r10.1.map eDPair)), (10, iV 1)], [(64, [iV a0.table.clock, iV a0.table.next, .lst 4 (a0.table.list_.map eDLease), .lst 2 (a0.intents.map eDIntent), .lst 1 (a0.accounts.map eI), .bool a0.sealed])], []⟩ (fgk (by kernel_rfl)) (seq_ (reg_ (st (mv_ rfl tv (st (mv_ rfl tv ?_)))))))))))))
     obtain ⟨r30, e31, h0⟩ := bnd h0
     obtain ⟨c32, h0⟩ := grd h0
     refine st (call1_ [] [1856] [] false (H253 r10.1 1 r30 e31) ⟨tv, tv, tv⟩ (by kernel_rfl) (by kernel_rfl) (by kernel_rfl) (by kernel_rfl) (fun _ => and_ rfl (and_ (fl2 (fun _ => rfl)) rfl)) (sw ⟨[(1, .ptr 64 0), (4, .own 1408 0 2 (r6.1.map eDPair)), (5, iV r6.2), (7, .own 1856 0 2 (r30.2.map eDPair)), (64, iV r30.1)], [(64, [iV a0.table.clock, iV a0.table.next, .lst 4 (a0.table.list_.map eDLease), .lst 2 (a0.intents.map eDIntent), .lst 1 (a0.accounts.map eI), .bool a0.sealed])], []⟩ (fg ⟨rfl, rfl, rfl, (congrArg (fun z => some ((z : V))) (row_eq c32)), rfl, tv⟩ ⟨rfl, tv⟩) (mv_ rfl tv (oe_ (wk_ ⟨[(1, .ptr 64 0), (4, .own 1408 0 2 (r6.1.map eDPair)), (5, iV r6.2), (7, .own 1856 0 2 (r30.2.map eDPair)), (10, iV r30.1)], [(64, [iV a0.table.clock, iV a0.table.next, .lst 4 (a0.table.list_.map eDLease), .lst 2 (a0.intents.map eDIntent), .lst 1 (a0.accounts.map eI), .bool a0.sealed])], []⟩ (fgk (by kernel_rfl)) (seq_ (reg_ (st (mvc_ tv (oe_ (wk_ ⟨[(1, .ptr 64 0), (4, .own 1408 0 2 (r6.1.map eDPair)), (5, iV r6.2), (7, .own 1856 0 2 (r30.2.map eDPair)), (10, iV r30.1), (11, iV 1)], [(64, [iV a0.table.clock, iV a0.table.next, .lst 4 (a0.table.list_.map eDLease), .lst 2 (a0.intents.map eDIntent), .lst 1 (a0.accounts.map eI), .bool a0.sealed])], []⟩ (fgk (by kernel_rfl)) (seq_ (reg_ (st (mv_ rfl tv (st (mv_ rfl tv ?_)))))))))))))))))
     obtain ⟨r33, e34, h0⟩ := bnd h0
     refine st (call0_ (r := iV r33) false (H254 r30.2 1 r33 e34) ⟨tv, tv, tv⟩ rfl rfl (fun _ => rfl) (st (mv_ rfl tv (oe_ (wk_ ⟨[(1, .ptr 64 0), (4, .own 1408 0 2 (r6.1.map eDPair)), (5, iV r6.2), (7, .own 1856 0 2 (r30.2.map eDPair)), (10, iV r30.1), (11, iV r33)], [(64, [iV a0.table.clock, iV a0.table.next, .lst 4 (a0.table.list_.map eDLease), .lst 2 (a0.intents.map eDIntent), .lst 1 (a0.accounts.map eI), .bool a0.sealed])], []⟩ (fgk (by kernel_rfl)) (seq_ (seq_ (reg_ (st (mv_ rfl tv (st (c_ (cp_ t3 rfl tv) (oe_ (wk_ ⟨[(1, .ptr 64 0), (4, .own 1408 0 2 (r6.1.map eDPair)), (5, iV r6.2), (7, .own 1856 0 2 (r30.2.map eDPair)), (10, iV r30.1), (11, iV r33), (69, .bool (decide (r33 < 0)))], [(64, [iV a0.table.clock, iV a0.table.next, .lst 4 (a0.table.list_.map eDLease), .lst 2 (a0.intents.map eDIntent), .lst 1 (a0.accounts.map eI), .bool a0.sealed])], []⟩ (fgk (by kernel_rfl)) (ite_ (cb := (decide (r33 < 0))) rfl (fun c35 => ?_) (fun c35 => ?_))))))))))))))))
     ·replace h0 := ip c35 h0
      refine seq_ (reg_ (st (mvc_ tv (oe_ (wk_ ⟨[(2, .bool false)], [], []⟩ (fgk (by kernel_rfl)) ?_)))))
      obtain rfl := Option.some.inj h0
      exact rt_ (ret_ rfl rfl rfl rfl rfl tv)
     ·replace h0 := inb c35 h0
      refine sk_ (wk_ ⟨[(1, .ptr 64 0), (4, .own 1408 0 2 (r6.1.map eDPair)), (5, iV r6.2), (7, .own 1856 0 2 (r30.2.map eDPair)), (10, iV r30.1), (11, iV r33)], [(64, [iV a0.table.clock, iV a0.table.next, .lst 4 (a0.table.list_.map eDLease), .lst 2 (a0.intents.map eDIntent), .lst 1 (a0.accounts.map eI), .bool a0.sealed])], []⟩ (fgk (by kernel_rfl)) (seq_ (seq_ (reg_ (st (mv_ rfl tv (st (mv_ rfl tv (st (c_ (cp_ t3 rfl tv) (oe_ (wk_ ⟨[(1, .ptr 64 0), (4, .own 1408 0 2 (r6.1.map eDPair)), (5, iV r6.2), (7, .own 1856 0 2 (r30.2.map eDPair)), (10, iV r30.1), (72, .bool (r33 != r30.1))], [(64, [iV a0.table.clock, iV a0.table.next, .lst 4 (a0.table.list_.map eDLease), .lst 2 (a0.intents.map eDIntent), .lst 1 (a0.accounts.map eI), .bool a0.sealed])], []⟩ (fgk (by kernel_rfl)) (ite_ (cb := (r33 != r30.1)) rfl (fun c36 => ?_) (fun c36 => ?_))))))))))))))
      ·replace h0 := ip c36 h0
       refine seq_ (reg_ (st (mvc_ tv (oe_ (wk_ ⟨[(2, .bool false)], [], []⟩ (fgk (by kernel_rfl)) ?_)))))
       obtain rfl := Option.some.inj h0
       exact rt_ (ret_ rfl rfl rfl rfl rfl tv)
      ·replace h0 := inb c36 h0
       refine sk_ (wk_ ⟨[(1, .ptr 64 0), (4, .own 1408 0 2 (r6.1.map eDPair)), (5, iV r6.2), (7, .own 1856 0 2 (r30.2.map eDPair)), (10, iV r30.1)], [(64, [iV a0.table.clock, iV a0.table.next, .lst 4 (a0.table.list_.map eDLease), .lst 2 (a0.intents.map eDIntent), .lst 1 (a0.accounts.map eI), .bool a0.sealed])], []⟩ (fgk (by kernel_rfl)) (seq_ (reg_ (st (c_ (v := .agg (eDVault a0)) (cp_ ⟨tv, tv⟩ rfl (nl rfl)) ?_)))))
       obtain ⟨r37, e38, h0⟩ := bnd h0
       refine st (call0_ (r := .agg [iV r37.table.clock, iV r37.table.next, .own 0 0 4 (r37.table.list_.map eDLease), .own 1 0 2 (r37.intents.map eDIntent), .own 2 0 1 (r37.accounts.map eI), .bool r37.sealed]) false (H47 a0 r37 e38) ⟨tv, tv⟩ rfl rfl (fun _ => (and_ rfl (and_ rfl (and_ (fl1 (fun _ => rfl)) (and_ (fl1 (fun _ => rfl)) (and_ (fl1 (fun _ => rfl)) (and_ rfl rfl))))))) ?_)
       obtain ⟨r39, e40, h0⟩ := bnd h0
       refine st (call0_ (r := .tup [.own 0 0 2 (r39.1.map eDPair), iV r39.2]) false (H250 r37 r39 e40) ⟨tv, tv⟩ rfl rfl (fun _ => (and_ (fl1 (fun _ => rfl)) (and_ rfl rfl))) (st (mv_ rfl tv (st (c_ (cp_ ⟨tv, tv⟩ rfl tv) (st (c_ (cp_ ⟨tv, tv⟩ rfl tv) (st (mv_ rfl tv (st (mv_ rfl tv (oe_ (wk_ ⟨[(4, .own 1408 0 2 (r6.1.map eDPair)), (5, iV r6.2), (7, .own 1856 0 2 (r30.2.map eDPair)), (10, iV r30.1), (12, .own 4864 0 2 (r39.1.map eDPair)), (13, iV r39.2)], [], []⟩ (fgk (by kernel_rfl)) (seq_ (seq_ (reg_ (st (mv_ rfl tv (st (mv_ rfl tv ?_))))))))))))))))))))
       obtain ⟨r41, e42, h0⟩ := bnd h0
       refine st (call0_ (r := .bool r41) false (H251 r39.1 r6.1 r41 e42) ⟨tv, tv, tv⟩ rfl rfl (fun _ => rfl) (st (c_ (cp_ ⟨tv, tv⟩ rfl tv) (st (mv_ rfl tv (st (pg_ (u := iV r39.2) rfl (fun hg => (cmv (v := iV r39.2) rfl tv)) (st (pg_ (u := iV r6.2) rfl (fun hg => (cmv (v := iV r6.2) rfl tv)) (st (pg_ (u := .bool (r39.2 != r6.2)) rfl (fun hg => (cp_ ⟨(fun _ => hg), (fun _ => hg), tv⟩ rfl tv)) (st (pick_ rfl rfl rfl tv (fun h => eqf h) rfl (oe_ (wk_ ⟨[(7, .own 1856 0 2 (r30.2.map eDPair)), (10, iV r30.1), (87, .bool (bif (!r41) then true else (r39.2 != r6.2)))], [], []⟩ (fgk (by kernel_rfl)) (ite_ (cb := (bif (!r41) then true else (r39.2 != r6.2))) rfl (fun c43 => ?_) (fun c43 => ?_)))))))))))))))))
       ·replace h0 := ip c43 h0
        refine seq_ (reg_ (st (mvc_ tv (oe_ (wk_ ⟨[(2, .bool false)], [], []⟩ (fgk (by kernel_rfl)) ?_)))))
        obtain rfl := Option.some.inj h0
        exact rt_ (ret_ rfl rfl rfl rfl rfl tv)
       ·replace h0 := inb c43 h0
        refine sk_ (wk_ ⟨[(7, .own 1856 0 2 (r30.2.map eDPair)), (10, iV r30.1)], [], []⟩ (fgk (by kernel_rfl)) (seq_ (reg_ (st (mvc_ tv (oe_ (wk_ ⟨[(7, .own 1856 0 2 (r30.2.map eDPair)), (10, iV r30.1), (11, iV 1)], [], []⟩ (fgk (by kernel_rfl)) (seq_ (reg_ (st (mv_ rfl tv (st (mv_ rfl tv ?_)))))))))))))
        obtain ⟨r44, e45, h0⟩ := bnd h0
        refine st (call0_ (r := iV r44) false (H254 r30.2 1 r44 e45) ⟨tv, tv, tv⟩ rfl rfl (fun _ => rfl) (st (mv_ rfl tv (oe_ (wk_ ⟨[(10, iV r30.1), (11, iV r44)], [], []⟩ (fgk (by kernel_rfl)) (seq_ (seq_ (reg_ (st (mv_ rfl tv (st (c_ (cp_ t3 rfl tv) (oe_ (wk_ ⟨[(10, iV r30.1), (11, iV r44), (92, .bool (decide (r44 < 0)))], [], []⟩ (fgk (by kernel_rfl)) (ite_ (cb := (decide (r44 < 0))) rfl (fun c46 => ?_) (fun c46 => ?_))))))))))))))))
        ·replace h0 := ip c46 h0
         refine seq_ (reg_ (st (mvc_ tv (oe_ (wk_ ⟨[(2, .bool false)], [], []⟩ (fgk (by kernel_rfl)) ?_)))))
         obtain rfl := Option.some.inj h0
         exact rt_ (ret_ rfl rfl rfl rfl rfl tv)
        ·replace h0 := inb c46 h0
         refine sk_ (wk_ ⟨[(10, iV r30.1), (11, iV r44)], [], []⟩ (fgk (by kernel_rfl)) (seq_ (seq_ (reg_ (st (mv_ rfl tv (st (mv_ rfl tv (st (c_ (cp_ t3 rfl tv) (oe_ (wk_ ⟨[(95, .bool (r44 != r30.1))], [], []⟩ (fgk (by kernel_rfl)) (ite_ (cb := (r44 != r30.1)) rfl (fun c47 => ?_) (fun c47 => ?_))))))))))))))
         ·replace h0 := ip c47 h0
          refine seq_ (reg_ (st (mvc_ tv (oe_ (wk_ ⟨[(2, .bool false)], [], []⟩ (fgk (by kernel_rfl)) ?_)))))
          obtain rfl := Option.some.inj h0
          exact rt_ (ret_ rfl rfl rfl rfl rfl tv)
         ·replace h0 := inb c47 h0
          refine sk_ (wk_ ⟨[], [], []⟩ (fgk (by kernel_rfl)) (seq_ (reg_ (st (mvc_ tv (oe_ (wk_ ⟨[(2, .bool true)], [], []⟩ (fgk (by kernel_rfl)) ?_)))))))
          obtain rfl := Option.some.inj h0
          exact rt_ (ret_ rfl rfl rfl rfl rfl tv)
end Go.Ev
