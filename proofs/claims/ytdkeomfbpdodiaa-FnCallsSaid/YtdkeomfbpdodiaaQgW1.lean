/- The walks of functions: the code comes to the answers that QgD tells. Written by a program of ours. -/
import Derived.Test.YtdkeomfbpdodiaaQgW0
set_option linter.all false
set_option maxHeartbeats 4000000
set_option linter.unusedVariables false
set_option maxRecDepth 100000
namespace Go.Ev

/- loop.example/g00149/spec.l08Tick -/
def c81_r0 : List Ins := [⟨some 2, .box (.t 0), none⟩,
⟨some 4, .alloc [(iV 0), (iV 0), (.own 259 0 4 [])], none⟩,
⟨some 5, .nilS 1, none⟩]
def c81_r1 : List Ins := [(iQ 11 (.load (.t 2) 3 true)),
⟨some 12, .call 111 [(.t 11)], none⟩,
⟨some 6, .alloc [(iV 0), (iV 0), (.own 387 0 4 [])], none⟩,
⟨none, .store (.t 6) (.t 12) 3, none⟩]
def c81_r2 : List Ins := [(iQ 13 (.fieldA (.t 2) 0)),
(iQ 14 (.load (.t 13) 1 false)),
(iQ 15 (.mv (.t 1))),
(iQ 16 (.mx (.t 14) (.t 15))),
(iQ 17 (.fieldA (.t 6) 0)),
⟨none, .store (.t 17) (.t 16) 1, none⟩]
def c81_r3 : List Ins := [⟨some 18, .mkS 1 [(iV 0)] 0 [], none⟩,
(iQ 7 (.mv (.t 18)))]
def c81_r4 : List Ins := [⟨some 8, .p (.mv (.c (iV (-1)))), none⟩]
def c81_r5 : List Ins := [⟨some 9, .p (.mv (.c (iV 0))), none⟩]
def c81_r6 : List Ins := [(iQ 19 (.mv (.t 9))),
(iQ 20 (.fieldA (.t 6) 2)),
(iQ 21 (.load (.t 20) 1 false)),
(iQ 22 (.len (.t 21))),
(iQ 23 (.bin .lss (.t 19) (.t 22)))]
def c81_r7 : List Ins := [(iQ 26 (.fieldA (.t 6) 2)),
(iQ 27 (.load (.t 26) 1 false)),
(iQ 28 (.mv (.t 9))),
(iQ 29 (.idxA (.t 27) (.t 28) 4)),
(iQ 30 (.load (.t 29) 4 true)),
⟨some 10, .alloc [(iV 0), (iV 0), (iV 0), (.bool false)], none⟩,
⟨none, .store (.t 10) (.t 30) 4, none⟩]
def c81_r8 : DP := (.take (iQ 31 (.fieldA (.t 10) 3))
(.take (iQ 32 (.load (.t 31) 1 false))
(.take (iQ 33 (.un .not (.t 32)))
(.take (iQ 34 (.mv (.t 33)))
(.take ⟨some 35, .p (.fieldA (.t 10) 1), some (34, true)⟩
(.take ⟨some 36, .p (.load (.t 35) 1 false), some (34, true)⟩
(.take ⟨some 37, .p (.fieldA (.t 6) 0), some (34, true)⟩
(.take ⟨some 38, .p (.load (.t 37) 1 false), some (34, true)⟩
(.take ⟨some 39, .p (.bin .leq (.t 36) (.t 38)), some (34, true)⟩
(.take ⟨some 40, .pick (.t 34) (.t 39) (.c (.bool false)), none⟩
(.take (iQ 41 (.mv (.t 40)))
(.take ⟨some 42, .p (.mv (.t 8)), some (41, true)⟩
(.take ⟨some 43, .p (.bin .lss (.t 42) (.c (iV 0))), some (41, true)⟩
(.take ⟨some 44, .p (.mv (.t 43)), some (41, true)⟩
(.take ⟨some 45, .p (.fieldA (.t 10) 1), some (44, false)⟩
(.take ⟨some 46, .p (.load (.t 45) 1 false), some (44, false)⟩
(.take ⟨some 47, .p (.fieldA (.t 6) 2), some (44, false)⟩
(.take ⟨some 48, .p (.load (.t 47) 1 false), some (44, false)⟩
(.take ⟨some 49, .p (.mv (.t 8)), some (44, false)⟩
(.take ⟨some 50, .p (.idxA (.t 48) (.t 49) 4), some (44, false)⟩
(.take ⟨some 51, .p (.fieldA (.t 50) 1), some (44, false)⟩
(.take ⟨some 52, .p (.load (.t 51) 1 false), some (44, false)⟩
(.take ⟨some 53, .p (.bin .lss (.t 46) (.t 52)), some (44, false)⟩
(.take ⟨some 54, .pick (.t 44) (.c (.bool true)) (.t 53), some (41, true)⟩
(.take ⟨some 55, .pick (.t 41) (.t 54) (.c (.bool false)), none⟩
.fin)))))))))))))))))))))))))
def c81_r9 : List Ins := [(iQ 56 (.mv (.t 9))),
(iQ 8 (.mv (.t 56)))]
def c81_r10 : List Ins := [(iQ 24 (.mv (.t 9))),
⟨some 25, .p (.bin .add (.t 24) (.c (iV 1))), none⟩,
(iQ 9 (.mv (.t 25)))]
def c81_l0 : IR := (.seq (.seq (.reg c81_r6) (.ite (.t 23) .skip (.exit 2))) (.seq (.block 3 (.seq (.reg c81_r7) (.seq (.draw c81_r8) (.ite (.t 55) (.reg c81_r9) .skip)))) (.reg c81_r10)))
def c81_r11 : List Ins := [(iQ 57 (.mv (.t 8))),
⟨some 58, .p (.bin .lss (.t 57) (.c (iV 0))), none⟩]
def c81_r12 : List Ins := [(iQ 59 (.load (.t 6) 3 true)),
(iQ 60 (.mv (.t 7))),
⟨none, .store (.t 4) (.t 59) 3, none⟩,
(iQ 5 (.mv (.t 60)))]
def c81_r13 : List Ins := [(iQ 61 (.fieldA (.t 6) 2)),
(iQ 62 (.load (.t 61) 1 false)),
(iQ 63 (.mv (.t 8))),
(iQ 64 (.idxA (.t 62) (.t 63) 4)),
(iQ 65 (.fieldA (.t 64) 3)),
⟨none, .store (.t 65) (.c (.bool true)) 1, none⟩]
def c81_r14 : List Ins := [(iQ 66 (.mv (.t 7))),
(iQ 67 (.fieldA (.t 6) 2)),
(iQ 68 (.load (.t 67) 1 false)),
(iQ 69 (.mv (.t 8))),
(iQ 70 (.idxA (.t 68) (.t 69) 4)),
(iQ 71 (.fieldA (.t 70) 0)),
(iQ 72 (.load (.t 71) 1 false)),
⟨some 73, .mkS 1 [(iV 0)] 1 [(0, (.t 72))], none⟩,
⟨some 74, .app 1 8 (.t 66) (.t 73), none⟩,
(iQ 7 (.mv (.t 74)))]
def c81_l1 : IR := (.block 1 (.seq (.reg c81_r4) (.seq (.seq (.reg c81_r5) (.block 2 (.loop c81_l0))) (.seq (.seq (.reg c81_r11) (.ite (.t 58) (.seq (.reg c81_r12) .ret) .skip)) (.seq (.reg c81_r13) (.reg c81_r14))))))
def c81 : XFn := { np := 2, nt := 75, res := [.cell 4 3 true, .t 5], body := (.seq (.reg c81_r0) (.seq (.reg c81_r1) (.seq (.reg c81_r2) (.seq (.reg c81_r3) (.block 0 (.loop c81_l1)))))) }
def K81 (C : CRel) : Prop := ∀ (a0 : DTable) (a1 : Int) (r : DTable × (List Int)), g81 a0 a1 = some r → C 81 ⟨[.agg (eDTable a0), iV a1], []⟩ ⟨.tup [.agg [iV r.1.clock, iV r.1.next, .own 0 0 4 (r.1.list_.map eDLease)], .own 1 0 1 (r.2.map eI)], [], []⟩
theorem F81 {C : CRel} (H111 : K111 C) (a0 : DTable) (a1 : Int) (r : DTable × (List Int)) (h0 : g81 a0 a1 = some r) : FnOK C c81 ⟨[.agg (eDTable a0), iV a1], []⟩ ⟨.tup [.agg [iV r.1.clock, iV r.1.next, .own 0 0 4 (r.1.list_.map eDLease)], .own 1 0 1 (r.2.map eI)], [], []⟩ := by
 refine fn_ (nl rfl) (seq_ (reg_ (st (box_ rfl tv rfl (st (alloc_ (st (nilS_ (oe_ (wk_ ⟨[(1, iV a1), (2, .ptr 128 0), (4, .ptr 256 0)], [(128, [iV a0.clock, iV a0.next, .lst 4 (a0.list_.map eDLease)]), (256, [iV 0, iV 0, .own 259 0 4 (([] : List DLease).map eDLease)])], []⟩ (fgk (by kernel_rfl)) (seq_ (reg_ (st (c_ (v := .agg (eDTable a0)) (cp_ ⟨tv, tv⟩ rfl (nl rfl)) ?_))))))))))))))
 obtain ⟨r1, e2, h0⟩ := bnd h0
 refine st (call0_ (r := .agg [iV r1.clock, iV r1.next, .own 0 0 4 (r1.list_.map eDLease)]) false (H111 a0 r1 e2) ⟨tv, tv⟩ rfl rfl (fun _ => (and_ rfl (and_ rfl (and_ (fl1 (fun _ => rfl)) rfl)))) (st (alloc_ (st (stp_ rfl rfl tv rfl rfl rfl (nl rfl) (oe_ (wk_ ⟨[(1, iV a1), (2, .ptr 128 0), (4, .ptr 256 0), (6, .ptr 384 0)], [(128, [iV a0.clock, iV a0.next, .lst 4 (a0.list_.map eDLease)]), (256, [iV 0, iV 0, .own 259 0 4 (([] : List DLease).map eDLease)]), (384, [iV r1.clock, iV r1.next, .own 768 0 4 (r1.list_.map eDLease)])], []⟩ (fgk (by kernel_rfl)) (seq_ (reg_ (st (c_ (cp_ ⟨tv, tv⟩ rfl tv) (st (c_ (cp_ ⟨tv, tv⟩ rfl (nl rfl)) (st (mv_ rfl tv (st (c_ (cp_ ⟨tv, tv, tv⟩ rfl rfl) (st (c_ (cp_ ⟨tv, tv⟩ rfl tv) (st (stp_ rfl rfl tv rfl rfl rfl (nl rfl) (oe_ (wk_ ⟨[(4, .ptr 256 0), (6, .ptr 384 0)], [(256, [iV 0, iV 0, .own 259 0 4 (([] : List DLease).map eDLease)]), (384, [iV (if a1 > a0.clock then a1 else a0.clock), iV r1.next, .own 768 0 4 (r1.list_.map eDLease)])], []⟩ (fgk (by kernel_rfl)) (seq_ (reg_ (st (mkS_ tv tv (st (mv_ rfl tv (oe_ (wk_ ⟨[(4, .ptr 256 0), (6, .ptr 384 0), (7, .own 1152 0 1 (([] : List Int).map eI))], [(256, [iV 0, iV 0, .own 259 0 4 (([] : List DLease).map eDLease)]), (384, [iV (if a1 > a0.clock then a1 else a0.clock), iV r1.next, .own 768 0 4 (r1.list_.map eDLease)])], []⟩ (fgk (by kernel_rfl)) (block_ ?_))))))))))))))))))))))))))))))))
 obtain ⟨r157, e158, h0⟩ := bnd h0
 refine loop_ (R := (fun _ => False)) (g81_l0 a0 a1 r1) (fun s S => match s with | (p44, p45) => S = ⟨[(4, .ptr 256 0), (6, .ptr 384 0), (7, .own 1152 0 1 (p44.map eI))], [(256, [iV 0, iV 0, .own 259 0 4 (([] : List DLease).map eDLease)]), (384, [iV (if a1 > a0.clock then a1 else a0.clock), iV r1.next, .own 768 0 4 (p45.map eDLease)])], []⟩) e158 ⟨[(4, .ptr 256 0), (6, .ptr 384 0), (7, .own 1152 0 1 (([] : List Int).map eI))], [(256, [iV 0, iV 0, .own 259 0 4 (([] : List DLease).map eDLease)]), (384, [iV (if a1 > a0.clock then a1 else a0.clock), iV r1.next, .own 768 0 4 (r1.list_.map eDLease)])], []⟩ (fgk (by kernel_rfl)) rfl 0 (fun h => h.elim fun _ h => h.elim) ?_ ?_
 ·exact fun _ _ _ h => h.elim
 ·rintro ⟨p44, p45⟩ o1 _ K1 rfl h1 hx1 hK1 hE1 hR1
  refine block_ (seq_ (reg_ (st (mvc_ tv (oe_ (wk_ ⟨[(4, .ptr 256 0), (6, .ptr 384 0), (7, .own 1152 0 1 (p44.map eI)), (8, iV (-1))], [(256, [iV 0, iV 0, .own 259 0 4 (([] : List DLease).map eDLease)]), (384, [iV (if a1 > a0.clock then a1 else a0.clock), iV r1.next, .own 768 0 4 (p45.map eDLease)])], []⟩ (fgk (by kernel_rfl)) (seq_ (seq_ (reg_ (st (mvc_ tv (oe_ (wk_ ⟨[(4, .ptr 256 0), (6, .ptr 384 0), (7, .own 1152 0 1 (p44.map eI)), (8, iV (-1)), (9, iV 0)], [(256, [iV 0, iV 0, .own 259 0 4 (([] : List DLease).map eDLease)]), (384, [iV (if a1 > a0.clock then a1 else a0.clock), iV r1.next, .own 768 0 4 (p45.map eDLease)])], []⟩ (fgk (by kernel_rfl)) (block_ ?_))))))))))))))
  obtain ⟨r145, e146, h1⟩ := bnd h1
  refine loop_ (R := (fun S => ∃ p119 : Int, p119 = r145 ∧ S = ⟨[(4, .ptr 256 0), (6, .ptr 384 0), (7, .own 1152 0 1 (p44.map eI)), (8, iV p119)], [(256, [iV 0, iV 0, .own 259 0 4 (([] : List DLease).map eDLease)]), (384, [iV (if a1 > a0.clock then a1 else a0.clock), iV r1.next, .own 768 0 4 (p45.map eDLease)])], []⟩)) (g81_l1 a0 a1 p45) (fun s S => match s with | (p102, p103) => S = ⟨[(4, .ptr 256 0), (6, .ptr 384 0), (7, .own 1152 0 1 (p44.map eI)), (8, iV p102), (9, iV p103)], [(256, [iV 0, iV 0, .own 259 0 4 (([] : List DLease).map eDLease)]), (384, [iV (if a1 > a0.clock then a1 else a0.clock), iV r1.next, .own 768 0 4 (p45.map eDLease)])], []⟩) e146 ⟨[(4, .ptr 256 0), (6, .ptr 384 0), (7, .own 1152 0 1 (p44.map eI)), (8, iV (-1)), (9, iV 0)], [(256, [iV 0, iV 0, .own 259 0 4 (([] : List DLease).map eDLease)]), (384, [iV (if a1 > a0.clock then a1 else a0.clock), iV r1.next, .own 768 0 4 (p45.map eDLease)])], []⟩ (fgk (by kernel_rfl)) rfl 2 (fun _ => rfl) ?_ ?_
  ·rintro S _ hfg ⟨p119, rfl, rfl⟩
   refine wk_ ⟨[(4, .ptr 256 0), (6, .ptr 384 0), (7, .own 1152 0 1 (p44.map eI)), (8, iV p119)], [(256, [iV 0, iV 0, .own 259 0 4 (([] : List DLease).map eDLease)]), (384, [iV (if a1 > a0.clock then a1 else a0.clock), iV r1.next, .own 768 0 4 (p45.map eDLease)])], []⟩ (fglk hfg (by kernel_rfl)) (seq_ (seq_ (reg_ (st (mv_ rfl tv (st (c_ (cp_ t3 rfl tv) (oe_ (wk_ ⟨[(4, .ptr 256 0), (6, .ptr 384 0), (7, .own 1152 0 1 (p44.map eI)), (8, iV p119), (58, .bool (decide (p119 < 0)))], [(256, [iV 0, iV 0, .own 259 0 4 (([] : List DLease).map eDLease)]), (384, [iV (if a1 > a0.clock then a1 else a0.clock), iV r1.next, .own 768 0 4 (p45.map eDLease)])], []⟩ (fgk (by kernel_rfl)) (ite_ (cb := (decide (p119 < 0))) rfl (fun c147 => ?_) (fun c147 => ?_)))))))))))
   ·replace h1 := ip c147 h1
    refine seq_ (reg_ (st (c_ (v := .agg [iV (if a1 > a0.clock then a1 else a0.clock), iV r1.next, .own 768 0 4 (p45.map eDLease)]) (cp_ ⟨tv, tv⟩ rfl (nl rfl)) (st (mv_ rfl tv (st (stp_ rfl rfl tv rfl rfl rfl (nl rfl) (st (mv_ rfl tv (oe_ (wk_ ⟨[(4, .ptr 256 0), (5, .own 1152 0 1 (p44.map eI))], [(256, [iV (if a1 > a0.clock then a1 else a0.clock), iV r1.next, .own 768 0 4 (p45.map eDLease)])], []⟩ (fgk (by kernel_rfl)) ?_)))))))))))
    obtain rfl := Option.some.inj h1
    obtain rfl := hx1 _ rfl
    obtain rfl := Option.some.inj h0
    exact rt_ (hR1 _ (ret_ rfl rfl rfl rfl rfl tv))
   ·replace h1 := inb c147 h1
    refine sk_ (wk_ ⟨[(4, .ptr 256 0), (6, .ptr 384 0), (7, .own 1152 0 1 (p44.map eI)), (8, iV p119)], [(256, [iV 0, iV 0, .own 259 0 4 (([] : List DLease).map eDLease)]), (384, [iV (if a1 > a0.clock then a1 else a0.clock), iV r1.next, .own 768 0 4 (p45.map eDLease)])], []⟩ (fgk (by kernel_rfl)) (seq_ (reg_ (st (c_ (cp_ ⟨tv, tv⟩ rfl tv) (st (c_ (cp_ ⟨tv, tv⟩ rfl (nl rfl)) (st (mv_ rfl tv ?_)))))))))
    obtain ⟨y148, e149, h1⟩ := bnd h1
    refine st (c_ (cidxO (e := eDLease) (y := y148) rfl rfl tv rfl rfl tv e149) (st (c_ (cp_ ⟨tv, tv⟩ rfl tv) ?_)))
    obtain ⟨y150, e151, h1⟩ := bnd h1
    refine st (sto_ (y' := (DLease.mk y150.id y150.until_ y150.cap true)) rfl rfl tv rfl rfl rfl rfl e151 (nl rfl) rfl rfl rfl rfl (oe_ (wk_ ⟨[(4, .ptr 256 0), (6, .ptr 384 0), (7, .own 1152 0 1 (p44.map eI)), (8, iV p119)], [(256, [iV 0, iV 0, .own 259 0 4 (([] : List DLease).map eDLease)]), (384, [iV (if a1 > a0.clock then a1 else a0.clock), iV r1.next, .own 768 0 4 ((p45.set p119.toNat (DLease.mk y150.id y150.until_ y150.cap true)).map eDLease)])], []⟩ (fg ⟨rfl, rfl, rfl, rfl, tv⟩ ⟨rfl, (congrArg (fun z => some (([iV (if a1 > a0.clock then a1 else a0.clock), iV r1.next, .own 768 0 4 z] : List V))) overlay_map), tv⟩) (reg_ (st (mv_ rfl tv (st (c_ (cp_ ⟨tv, tv⟩ rfl tv) (st (c_ (cp_ ⟨tv, tv⟩ rfl (nl rfl)) (st (mv_ rfl tv ?_))))))))))))
    obtain ⟨y152, e153, h1⟩ := bnd h1
    refine st (c_ (cidxO (e := eDLease) (y := y152) rfl rfl tv rfl rfl tv e153) (st (c_ (cp_ ⟨tv, tv⟩ rfl tv) ?_)))
    obtain ⟨y154, e155, h1⟩ := bnd h1
    refine st (c_ (cloadO (e := eDLease) (y := y154) (v := iV y154.id) rfl rfl tv rfl rfl e155 rfl (nl rfl) rfl) (st (mkS_ ⟨tv, tv⟩ ⟨⟨nl rfl, rfl, rfl⟩, tv⟩ ?_)))
    obtain ⟨c156, h1⟩ := grd h1
    refine st (app_ (e := eI) (l0 := p44) (l1 := ([y154.id] : List Int)) rfl rfl tv rfl (by decide) c156 (st (mv_ rfl tv (oe_ (bn_ ?_)))))
    obtain rfl := Option.some.inj h1
    exact hK1 _ rfl _ ⟨[(4, .ptr 256 0), (6, .ptr 384 0), (7, .own 1152 0 1 ((p44 ++ ([y154.id] : List Int)).map eI))], [(256, [iV 0, iV 0, .own 259 0 4 (([] : List DLease).map eDLease)]), (384, [iV (if a1 > a0.clock then a1 else a0.clock), iV r1.next, .own 768 0 4 ((p45.set p119.toNat (DLease.mk y150.id y150.until_ y150.cap true)).map eDLease)])], []⟩ (fgk (by kernel_rfl)) rfl
  ·rintro ⟨p102, p103⟩ o2 _ K2 rfl h2 hx2 hK2 hE2 hR2
   refine seq_ (seq_ (reg_ (st (mv_ rfl tv (st (c_ (cp_ ⟨tv, tv⟩ rfl tv) (st (c_ (cp_ ⟨tv, tv⟩ rfl (nl rfl)) (st (c_ (clenO (e := eDLease) (l0 := p45) rfl rfl tv) (st (c_ (cp_ t3 rfl tv) (oe_ (wk_ ⟨[(4, .ptr 256 0), (6, .ptr 384 0), (7, .own 1152 0 1 (p44.map eI)), (8, iV p102), (9, iV p103), (23, .bool (decide (p103 < (p45.length : Int))))], [(256, [iV 0, iV 0, .own 259 0 4 (([] : List DLease).map eDLease)]), (384, [iV (if a1 > a0.clock then a1 else a0.clock), iV r1.next, .own 768 0 4 (p45.map eDLease)])], []⟩ (fgk (by kernel_rfl)) (ite_ (cb := (decide (p103 < (p45.length : Int)))) rfl (fun c120 => ?_) (fun c120 => ?_))))))))))))))))
   ·replace h2 := ip c120 h2
    refine sk_ (wk_ ⟨[(4, .ptr 256 0), (6, .ptr 384 0), (7, .own 1152 0 1 (p44.map eI)), (8, iV p102), (9, iV p103)], [(256, [iV 0, iV 0, .own 259 0 4 (([] : List DLease).map eDLease)]), (384, [iV (if a1 > a0.clock then a1 else a0.clock), iV r1.next, .own 768 0 4 (p45.map eDLease)])], []⟩ (fgk (by kernel_rfl)) (seq_ (blockJ (fun S => ∃ p132 : Int, S = ⟨[(4, .ptr 256 0), (6, .ptr 384 0), (7, .own 1152 0 1 (p44.map eI)), (8, iV p132), (9, iV p103)], [(256, [iV 0, iV 0, .own 259 0 4 (([] : List DLease).map eDLease)]), (384, [iV (if a1 > a0.clock then a1 else a0.clock), iV r1.next, .own 768 0 4 (p45.map eDLease)])], []⟩ ∧ g81_j0 p103 p132 = some o2) ?_ (fun J133 => ?_))))
    ·rintro _ ⟨p132, rfl, h2⟩
     refine wk_ ⟨[(4, .ptr 256 0), (6, .ptr 384 0), (7, .own 1152 0 1 (p44.map eI)), (8, iV p132), (9, iV p103)], [(256, [iV 0, iV 0, .own 259 0 4 (([] : List DLease).map eDLease)]), (384, [iV (if a1 > a0.clock then a1 else a0.clock), iV r1.next, .own 768 0 4 (p45.map eDLease)])], []⟩ (fgk (by kernel_rfl)) (reg_ (st (mv_ rfl tv (st (c_ (cp_ t3 rfl tv) (st (mv_ rfl tv (oe_ ?_))))))))
     obtain rfl := Option.some.inj h2
     exact hK2 _ rfl _ ⟨[(4, .ptr 256 0), (6, .ptr 384 0), (7, .own 1152 0 1 (p44.map eI)), (8, iV p132), (9, iV (IntKind.i64.wrap (p103 + 1)))], [(256, [iV 0, iV 0, .own 259 0 4 (([] : List DLease).map eDLease)]), (384, [iV (if a1 > a0.clock then a1 else a0.clock), iV r1.next, .own 768 0 4 (p45.map eDLease)])], []⟩ (fgk (by kernel_rfl)) rfl
    ·refine seq_ ?_
     refine reg_ (st (c_ (cp_ ⟨tv, tv⟩ rfl tv) (st (c_ (cp_ ⟨tv, tv⟩ rfl (nl rfl)) (st (mv_ rfl tv ?_))))))
     obtain ⟨y134, e135, h2⟩ := bnd h2
     refine st (c_ (cidxO (e := eDLease) (y := y134) rfl rfl tv rfl rfl tv e135) ?_)
     obtain ⟨y136, e137, h2⟩ := bnd h2
     refine st (c_ (v := .agg (eDLease y136)) (cloadO (e := eDLease) (y := y136) (v := .agg (eDLease y136)) rfl rfl tv rfl rfl e137 rfl (nl rfl) rfl) (st (alloc_ (st (stp_ rfl rfl tv rfl rfl rfl (nl rfl) (oe_ (wk_ ⟨[(4, .ptr 256 0), (6, .ptr 384 0), (7, .own 1152 0 1 (p44.map eI)), (8, iV p102), (9, iV p103), (10, .ptr 640 0)], [(256, [iV 0, iV 0, .own 259 0 4 (([] : List DLease).map eDLease)]), (384, [iV (if a1 > a0.clock then a1 else a0.clock), iV r1.next, .own 768 0 4 (p45.map eDLease)]), (640, [iV y136.id, iV y136.until_, iV y136.cap, .bool y136.queued])], []⟩ (fgk (by kernel_rfl)) (seq_ ?_))))))))
     obtain ⟨y138, e139, h2⟩ := bnd h2
     obtain ⟨y140, e141, h2⟩ := bnd h2
     refine draw_ (dtake tv (c_ (cp_ ⟨tv, tv⟩ rfl tv) (⟨tv, (dtake tv (c_ (cp_ ⟨tv, tv⟩ rfl (nl rfl)) (⟨tv, (dtake tv (c_ (cp_ ⟨tv, tv⟩ rfl tv) (⟨tv, (dtake tv (mv_ rfl tv (⟨tv, (dtake tv (pg_ (u := .ptr 640 1) rfl (fun hg => (cp_ ⟨tv, tv⟩ rfl tv)) (⟨tv, (dtake tv (pg_ (u := iV y136.until_) rfl (fun hg => (cp_ ⟨(fun _ => hg), tv⟩ rfl (nl rfl))) (⟨tv, (dtake tv (pg_ (u := .ptr 384 0) rfl (fun hg => (cp_ ⟨tv, tv⟩ rfl tv)) (⟨tv, (dtake tv (pg_ (u := iV (if a1 > a0.clock then a1 else a0.clock)) rfl (fun hg => (cp_ ⟨(fun _ => hg), tv⟩ rfl (nl rfl))) (⟨tv, (dtake tv (pg_ (u := .bool (decide (y136.until_ ≤ (if a1 > a0.clock then a1 else a0.clock)))) rfl (fun hg => (cp_ ⟨(fun _ => hg), (fun _ => hg), tv⟩ rfl tv)) (⟨tv, (dtake tv (pick_ rfl rfl rfl (fun h => eqt h) tv rfl (⟨tv, (dtake tv (mv_ rfl tv (⟨tv, (dtake tv (pg_ (u := iV p102) rfl (fun hg => (cmv (v := iV p102) rfl tv)) (⟨tv, (dtake tv (pg_ (u := .bool (decide (p102 < 0))) rfl (fun hg => (cp_ ⟨(fun _ => hg), tv, tv⟩ rfl tv)) (⟨tv, (dtake tv (pg_ (u := .bool (decide (p102 < 0))) rfl (fun hg => (cmv (v := .may ((bif (!y136.queued) then (decide (y136.until_ ≤ (if a1 > a0.clock then a1 else a0.clock))) else false) == true) (.bool (decide (p102 < 0)))) rfl (fun _ => hg))) (⟨tv, (dtake tv (pg_ (u := .ptr 640 1) rfl (fun hg => (cp_ ⟨tv, tv⟩ rfl tv)) (⟨tv, ?_⟩)))⟩)))⟩)))⟩)))⟩)))⟩)))⟩)))⟩)))⟩)))⟩)))⟩)))⟩)))⟩)))⟩)))⟩)))
     refine dtake tv (pg_ (u := iV y136.until_) rfl (fun hg => (cp_ ⟨(fun _ => hg), tv⟩ rfl (nl rfl))) (⟨tv, (dtake tv (pg_ (u := .ptr 384 2) rfl (fun hg => (cp_ ⟨tv, tv⟩ rfl tv)) (⟨tv, (dtake tv (pg_ (u := .own 768 0 4 (p45.map eDLease)) rfl (fun hg => (cp_ ⟨(fun _ => hg), tv⟩ rfl (nl rfl))) (⟨tv, (dtake tv (pg_ (u := iV p102) rfl (fun hg => (cmv (v := iV p102) rfl tv)) (⟨tv, (dtake tv (pg_ (u := .optr 768 4 (0 + p102.toNat) 0) rfl (fun hg => (cidxO (e := eDLease) (y := y138) rfl rfl (fun _ => hg) rfl rfl (fun _ => hg) (ip hg e139))) (⟨tv, (dtake tv (pg_ (u := .optr 768 4 (0 + p102.toNat) 1) rfl (fun hg => (cp_ ⟨(fun _ => hg), tv⟩ rfl tv)) (⟨tv, (dtakeO (pg_ (u := iV y140.until_) rfl (fun hg => (cloadO (e := eDLease) (y := y140) (v := iV y140.until_) rfl rfl (fun _ => hg) rfl rfl (ip hg e141) rfl (nl rfl) rfl)) (⟨⟨(againg (v := iV y140.until_) rfl (fun hg => (cloadO (e := eDLease) (y := y140) (v := iV y140.until_) rfl rfl (fun _ => hg) rfl rfl (ip hg e141) rfl (nl rfl) rfl)) rfl), tv⟩, (dtake tv (pg_ (u := .bool (decide (y136.until_ < y140.until_))) rfl (fun hg => (cp_ ⟨(fun _ => hg), (fun _ => hg), tv⟩ rfl tv)) (⟨⟨(againg (v := iV y140.until_) rfl (fun hg => (cloadO (e := eDLease) (y := y140) (v := iV y140.until_) rfl rfl (fun _ => hg) rfl rfl (ip hg e141) rfl (nl rfl) rfl)) rfl), tv⟩, (dtake tv (pickg_ (u := .bool (bif (decide (p102 < 0)) then true else (decide (y136.until_ < y140.until_)))) rfl (fun hg => cpick rfl rfl (fun _ => hg) rfl rfl tv (fun h => and_ hg (eqf h)) rfl) (⟨⟨(againg (v := iV y140.until_) rfl (fun hg => (cloadO (e := eDLease) (y := y140) (v := iV y140.until_) rfl rfl (fun _ => hg) rfl rfl (ip hg e141) rfl (nl rfl) rfl)) rfl), tv⟩, (dtake tv (pick_ rfl rfl rfl (fun h => eqt h) tv rfl (⟨⟨(againg (v := iV y140.until_) rfl (fun hg => (cloadO (e := eDLease) (y := y140) (v := iV y140.until_) rfl rfl (fun _ => hg) rfl rfl (ip hg e141) rfl (nl rfl) rfl)) rfl), tv⟩, (dfin ?_)⟩)))⟩)))⟩)))⟩)))⟩)))⟩)))⟩)))⟩)))⟩)))⟩))
     obtain ⟨v142, e143, h2⟩ := bl h2
     refine wk_ ⟨[(4, .ptr 256 0), (6, .ptr 384 0), (7, .own 1152 0 1 (p44.map eI)), (8, iV p102), (9, iV p103), (55, .bool v142)], [(256, [iV 0, iV 0, .own 259 0 4 (([] : List DLease).map eDLease)]), (384, [iV (if a1 > a0.clock then a1 else a0.clock), iV r1.next, .own 768 0 4 (p45.map eDLease)])], []⟩ (fgk (by subst e143; kernel_rfl)) (ite_ (cb := v142) rfl (fun c144 => ?_) (fun c144 => ?_))
     ·replace h2 := ip c144 h2
      refine reg_ (st (mv_ rfl tv (st (mv_ rfl tv (oe_ (bn_ ?_))))))
      exact J133 _ ⟨[(4, .ptr 256 0), (6, .ptr 384 0), (7, .own 1152 0 1 (p44.map eI)), (8, iV p103), (9, iV p103)], [(256, [iV 0, iV 0, .own 259 0 4 (([] : List DLease).map eDLease)]), (384, [iV (if a1 > a0.clock then a1 else a0.clock), iV r1.next, .own 768 0 4 (p45.map eDLease)])], []⟩ (fgk (by kernel_rfl)) ⟨_, rfl, h2⟩
     ·replace h2 := inb c144 h2
      refine sk_ (bn_ ?_)
      exact J133 _ ⟨[(4, .ptr 256 0), (6, .ptr 384 0), (7, .own 1152 0 1 (p44.map eI)), (8, iV p102), (9, iV p103)], [(256, [iV 0, iV 0, .own 259 0 4 (([] : List DLease).map eDLease)]), (384, [iV (if a1 > a0.clock then a1 else a0.clock), iV r1.next, .own 768 0 4 (p45.map eDLease)])], []⟩ (fgk (by kernel_rfl)) ⟨_, rfl, h2⟩
   ·replace h2 := inb c120 h2
    obtain rfl := Option.some.inj h2
    obtain rfl := hx2 _ rfl
    refine exQ rfl ?_
    exact hE2 _ ⟨[(4, .ptr 256 0), (6, .ptr 384 0), (7, .own 1152 0 1 (p44.map eI)), (8, iV p102)], [(256, [iV 0, iV 0, .own 259 0 4 (([] : List DLease).map eDLease)]), (384, [iV (if a1 > a0.clock then a1 else a0.clock), iV r1.next, .own 768 0 4 (p45.map eDLease)])], []⟩ (fgk (by kernel_rfl)) ⟨_, rfl, rfl⟩

/- loop.example/g00149/spec.l09Copy -/
def c102_r0 : List Ins := [⟨some 1, .box (.t 0), none⟩,
⟨some 2, .alloc [(iV 0), (iV 0), (.own 131 0 4 []), (.own 132 0 2 []), (.own 133 0 1 []), (.bool false)], none⟩]
def c102_r1 : List Ins := [(iQ 3 (.fieldA (.t 1) 0)),
(iQ 4 (.load (.t 3) 3 true)),
⟨some 5, .call 111 [(.t 4)], none⟩,
(iQ 6 (.fieldA (.t 1) 0)),
⟨none, .store (.t 6) (.t 5) 3, none⟩]
def c102_r2 : List Ins := [⟨some 7, .mkS 2 [(iV 0), (.bool false)] 0 [], none⟩,
(iQ 8 (.fieldA (.t 1) 3)),
(iQ 9 (.load (.t 8) 1 false)),
⟨some 10, .app 2 16 (.t 7) (.t 9), none⟩,
(iQ 11 (.fieldA (.t 1) 3)),
⟨none, .store (.t 11) (.t 10) 1, none⟩]
def c102_r3 : List Ins := [⟨some 12, .mkS 1 [(iV 0)] 0 [], none⟩,
(iQ 13 (.fieldA (.t 1) 4)),
(iQ 14 (.load (.t 13) 1 false)),
⟨some 15, .app 1 8 (.t 12) (.t 14), none⟩,
(iQ 16 (.fieldA (.t 1) 4)),
⟨none, .store (.t 16) (.t 15) 1, none⟩]
def c102_r4 : List Ins := [(iQ 17 (.load (.t 1) 6 true)),
⟨none, .store (.t 2) (.t 17) 6, none⟩]
def c102 : XFn := { np := 1, nt := 18, res := [.cell 2 6 true], body := (.seq (.reg c102_r0) (.seq (.reg c102_r1) (.seq (.reg c102_r2) (.seq (.reg c102_r3) (.seq (.reg c102_r4) .ret))))) }
def K102 (C : CRel) : Prop := ∀ (a0 : DVault) (r : DVault), g102 a0 = some r → C 102 ⟨[.agg (eDVault a0)], []⟩ ⟨.agg [iV r.table.clock, iV r.table.next, .own 0 0 4 (r.table.list_.map eDLease), .own 1 0 2 (r.intents.map eDIntent), .own 2 0 1 (r.accounts.map eI), .bool r.sealed], [], []⟩
theorem F102 {C : CRel} (H111 : K111 C) (a0 : DVault) (r : DVault) (h0 : g102 a0 = some r) : FnOK C c102 ⟨[.agg (eDVault a0)], []⟩ ⟨.agg [iV r.table.clock, iV r.table.next, .own 0 0 4 (r.table.list_.map eDLease), .own 1 0 2 (r.intents.map eDIntent), .own 2 0 1 (r.accounts.map eI), .bool r.sealed], [], []⟩ := by
 refine fn_ (nl rfl) (seq_ (reg_ (st (box_ rfl tv rfl (st (alloc_ (oe_ (wk_ ⟨[(1, .ptr 64 0), (2, .ptr 128 0)], [(64, [iV a0.table.clock, iV a0.table.next, .lst 4 (a0.table.list_.map eDLease), .lst 2 (a0.intents.map eDIntent), .lst 1 (a0.accounts.map eI), .bool a0.sealed]), (128, [iV 0, iV 0, .own 131 0 4 (([] : List DLease).map eDLease), .own 132 0 2 (([] : List DIntent).map eDIntent), .own 133 0 1 (([] : List Int).map eI), .bool false])], []⟩ (fgk (by kernel_rfl)) (seq_ (reg_ (st (c_ (cp_ ⟨tv, tv⟩ rfl tv) (st (c_ (v := .agg [iV a0.table.clock, iV a0.table.next, .lst 4 (a0.table.list_.map eDLease)]) (cp_ ⟨tv, tv⟩ rfl (nl rfl)) ?_))))))))))))))
 obtain ⟨r1, e2, h0⟩ := bnd h0
 refine st (call0_ (r := .agg [iV r1.clock, iV r1.next, .own 0 0 4 (r1.list_.map eDLease)]) false (H111 a0.table r1 e2) ⟨tv, tv⟩ rfl rfl (fun _ => (and_ rfl (and_ rfl (and_ (fl1 (fun _ => rfl)) rfl)))) (st (c_ (cp_ ⟨tv, tv⟩ rfl tv) (st (stp_ rfl rfl tv rfl rfl rfl (nl rfl) (oe_ (wk_ ⟨[(1, .ptr 64 0), (2, .ptr 128 0)], [(64, [iV r1.clock, iV r1.next, .own 320 0 4 (r1.list_.map eDLease), .lst 2 (a0.intents.map eDIntent), .lst 1 (a0.accounts.map eI), .bool a0.sealed]), (128, [iV 0, iV 0, .own 131 0 4 (([] : List DLease).map eDLease), .own 132 0 2 (([] : List DIntent).map eDIntent), .own 133 0 1 (([] : List Int).map eI), .bool false])], []⟩ (fgk (by kernel_rfl)) (seq_ (reg_ (st (mkS_ tv tv (st (c_ (cp_ ⟨tv, tv⟩ rfl tv) (st (c_ (cp_ ⟨tv, tv⟩ rfl (nl rfl)) ?_)))))))))))))))
 obtain ⟨c3, h0⟩ := grd h0
 refine st (app_ (e := eDIntent) (l0 := ([] : List DIntent)) (l1 := a0.intents) rfl rfl tv rfl (by decide) c3 (st (c_ (cp_ ⟨tv, tv⟩ rfl tv) (st (stp_ rfl rfl tv rfl rfl rfl (nl rfl) (oe_ (wk_ ⟨[(1, .ptr 64 0), (2, .ptr 128 0)], [(64, [iV r1.clock, iV r1.next, .own 320 0 4 (r1.list_.map eDLease), .own 448 0 2 ((([] : List DIntent) ++ a0.intents).map eDIntent), .lst 1 (a0.accounts.map eI), .bool a0.sealed]), (128, [iV 0, iV 0, .own 131 0 4 (([] : List DLease).map eDLease), .own 132 0 2 (([] : List DIntent).map eDIntent), .own 133 0 1 (([] : List Int).map eI), .bool false])], []⟩ (fgk (by kernel_rfl)) (seq_ (reg_ (st (mkS_ tv tv (st (c_ (cp_ ⟨tv, tv⟩ rfl tv) (st (c_ (cp_ ⟨tv, tv⟩ rfl (nl rfl)) ?_)))))))))))))))
 obtain ⟨c4, h0⟩ := grd h0
 refine st (app_ (e := eI) (l0 := ([] : List Int)) (l1 := a0.accounts) rfl rfl tv rfl (by decide) c4 (st (c_ (cp_ ⟨tv, tv⟩ rfl tv) (st (stp_ rfl rfl tv rfl rfl rfl (nl rfl) (oe_ (wk_ ⟨[(1, .ptr 64 0), (2, .ptr 128 0)], [(64, [iV r1.clock, iV r1.next, .own 320 0 4 (r1.list_.map eDLease), .own 448 0 2 ((([] : List DIntent) ++ a0.intents).map eDIntent), .own 768 0 1 ((([] : List Int) ++ a0.accounts).map eI), .bool a0.sealed]), (128, [iV 0, iV 0, .own 131 0 4 (([] : List DLease).map eDLease), .own 132 0 2 (([] : List DIntent).map eDIntent), .own 133 0 1 (([] : List Int).map eI), .bool false])], []⟩ (fgk (by kernel_rfl)) (seq_ (reg_ (st (c_ (v := .agg [iV r1.clock, iV r1.next, .own 320 0 4 (r1.list_.map eDLease), .own 448 0 2 ((([] : List DIntent) ++ a0.intents).map eDIntent), .own 768 0 1 ((([] : List Int) ++ a0.accounts).map eI), .bool a0.sealed]) (cp_ ⟨tv, tv⟩ rfl (nl rfl)) (st (stp_ rfl rfl tv rfl rfl rfl (nl rfl) (oe_ (wk_ ⟨[(2, .ptr 128 0)], [(128, [iV r1.clock, iV r1.next, .own 320 0 4 (r1.list_.map eDLease), .own 448 0 2 ((([] : List DIntent) ++ a0.intents).map eDIntent), .own 768 0 1 ((([] : List Int) ++ a0.accounts).map eI), .bool a0.sealed])], []⟩ (fgk (by kernel_rfl)) ?_)))))))))))))))
 obtain rfl := Option.some.inj h0
 exact rt_ (ret_ rfl rfl rfl rfl rfl tv)

/- loop.example/g00149/spec.l08Grant -/
def c70_r0 : List Ins := [⟨some 3, .box (.t 0), none⟩,
⟨some 6, .alloc [(iV 0), (iV 0), (.own 387 0 4 [])], none⟩,
⟨some 7, .p (.mv (.c (iV 0))), none⟩,
⟨some 8, .p (.mv (.c (iV 0))), none⟩]
def c70_r1 : List Ins := [(iQ 11 (.mv (.t 1))),
⟨some 12, .p (.bin .lss (.t 11) (.c (iV 1))), none⟩,
(iQ 13 (.mv (.t 12))),
⟨some 14, .p (.mv (.t 2)), some (13, false)⟩,
⟨some 15, .p (.mv (.t 1)), some (13, false)⟩,
⟨some 16, .p (.bin .lss (.t 14) (.t 15)), some (13, false)⟩,
⟨some 17, .pick (.t 13) (.c (.bool true)) (.t 16), none⟩,
(iQ 10 (.mv (.t 17)))]
def c70_r2 : List Ins := [(iQ 18 (.load (.t 3) 3 true)),
⟨none, .store (.t 6) (.t 18) 3, none⟩,
⟨some 7, .p (.mv (.c (iV 0))), none⟩,
⟨some 8, .p (.mv (.c (iV 4))), none⟩]
def c70_r3 : List Ins := [(iQ 20 (.fieldA (.t 3) 0)),
(iQ 21 (.load (.t 20) 1 false)),
⟨some 22, .p (.bin .eql (.t 21) (.c (iV 9223372036854775807))), none⟩,
(iQ 19 (.mv (.t 22)))]
def c70_r4 : List Ins := [(iQ 23 (.load (.t 3) 3 true)),
⟨none, .store (.t 6) (.t 23) 3, none⟩,
⟨some 7, .p (.mv (.c (iV 0))), none⟩,
⟨some 8, .p (.mv (.c (iV 11))), none⟩]
def c70_r5 : List Ins := [(iQ 25 (.fieldA (.t 3) 2)),
(iQ 26 (.load (.t 25) 1 false)),
(iQ 27 (.len (.t 26))),
⟨some 28, .p (.bin .eql (.t 27) (.c (iV 40))), none⟩,
(iQ 29 (.mv (.t 28))),
⟨some 30, .p (.fieldA (.t 3) 1), some (29, false)⟩,
⟨some 31, .p (.load (.t 30) 1 false), some (29, false)⟩,
⟨some 32, .p (.bin .eql (.t 31) (.c (iV 1000000))), some (29, false)⟩,
⟨some 33, .pick (.t 29) (.c (.bool true)) (.t 32), none⟩,
(iQ 24 (.mv (.t 33)))]
def c70_r6 : List Ins := [(iQ 34 (.load (.t 3) 3 true)),
⟨none, .store (.t 6) (.t 34) 3, none⟩,
⟨some 7, .p (.mv (.c (iV 0))), none⟩,
⟨some 8, .p (.mv (.c (iV 9))), none⟩]
def c70_r7 : List Ins := [(iQ 35 (.load (.t 3) 3 true)),
⟨some 36, .call 111 [(.t 35)], none⟩,
⟨some 9, .alloc [(iV 0), (iV 0), (.own 579 0 4 [])], none⟩,
⟨none, .store (.t 9) (.t 36) 3, none⟩]
def c70_r8 : DP := (.take (iQ 37 (.fieldA (.t 9) 2))
(.take (iQ 38 (.load (.t 37) 1 false))
(.take (iQ 39 (.fieldA (.t 3) 1))
(.take (iQ 40 (.load (.t 39) 1 false))
(.take (iQ 41 (.fieldA (.t 3) 0))
(.take (iQ 42 (.load (.t 41) 1 false))
(.take (iQ 43 (.mv (.t 1)))
(.take (iQ 45 (.fieldA (.t 3) 0))
(.take (iQ 46 (.load (.t 45) 1 false))
(.take (iQ 47 (.mv (.t 2)))
(.alt [(iQ 47 (.mv (.t 2))), (iQ 46 (.load (.t 45) 1 false)), (iQ 45 (.fieldA (.t 3) 0)), (iQ 40 (.load (.t 39) 1 false)), (iQ 39 (.fieldA (.t 3) 1)), (iQ 38 (.load (.t 37) 1 false)), (iQ 37 (.fieldA (.t 9) 2))] ⟨some 44, .call 53 [(.t 42), (.t 43)], none⟩
(.alt [(iQ 40 (.load (.t 39) 1 false)), (iQ 39 (.fieldA (.t 3) 1)), (iQ 38 (.load (.t 37) 1 false)), (iQ 37 (.fieldA (.t 9) 2))] ⟨some 48, .call 53 [(.t 46), (.t 47)], none⟩
(.take ⟨some 49, .p (.build [(iV 0), (iV 0), (iV 0), (.bool false)] [(0, 1, (.t 40)), (1, 1, (.t 44)), (2, 1, (.t 48))]), none⟩
(.alt [(iQ 38 (.load (.t 37) 1 false)), (iQ 37 (.fieldA (.t 9) 2))] ⟨some 50, .mkS 4 [(iV 0), (iV 0), (iV 0), (.bool false)] 1 [(0, (.t 49))], none⟩
(.alt [] ⟨some 51, .app 4 32 (.t 38) (.t 50), none⟩
(.take (iQ 52 (.fieldA (.t 9) 2))
(.alt [] ⟨none, .store (.t 52) (.t 51) 1, none⟩
.fin
.stop))
.stop)
.stop))
.stop)
.stop)))))))))))
def c70_r9 : List Ins := [(iQ 53 (.fieldA (.t 9) 1)),
(iQ 54 (.load (.t 53) 1 false)),
⟨some 55, .p (.bin .add (.t 54) (.c (iV 1))), none⟩,
(iQ 56 (.fieldA (.t 9) 1)),
⟨none, .store (.t 56) (.t 55) 1, none⟩]
def c70_r10 : DP := (.take (iQ 57 (.load (.t 9) 3 true))
(.take (iQ 58 (.fieldA (.t 3) 1))
(.take (iQ 59 (.load (.t 58) 1 false))
(.alt [(iQ 59 (.load (.t 58) 1 false)), (iQ 58 (.fieldA (.t 3) 1))] ⟨none, .store (.t 6) (.t 57) 3, none⟩
(.take (iQ 7 (.mv (.t 59)))
(.take ⟨some 8, .p (.mv (.c (iV 0))), none⟩
.fin))
.stop))))
def c70 : XFn := { np := 3, nt := 60, res := [.cell 6 3 true, .t 7, .t 8], body := (.seq (.reg c70_r0) (.seq (.block 0 (.seq (.reg c70_r1) (.ite (.t 10) (.seq (.reg c70_r2) .ret) (.seq (.reg c70_r3) (.ite (.t 19) (.seq (.reg c70_r4) .ret) (.seq (.reg c70_r5) (.ite (.t 24) (.seq (.reg c70_r6) .ret) .skip))))))) (.seq (.reg c70_r7) (.seq (.draw c70_r8) (.seq (.reg c70_r9) (.seq (.draw c70_r10) .ret)))))) }
def K70 (C : CRel) : Prop := ∀ (a0 : DTable) (a1 : Int) (a2 : Int) (r : DTable × Int × Int), g70 a0 a1 a2 = some r → C 70 ⟨[.agg (eDTable a0), iV a1, iV a2], []⟩ ⟨.tup [.agg [iV r.1.clock, iV r.1.next, .lst 4 (r.1.list_.map eDLease)], iV r.2.1, iV r.2.2], [], []⟩
theorem F70 {C : CRel} (H53 : K53 C) (H111 : K111 C) (a0 : DTable) (a1 : Int) (a2 : Int) (r : DTable × Int × Int) (h0 : g70 a0 a1 a2 = some r) : FnOK C c70 ⟨[.agg (eDTable a0), iV a1, iV a2], []⟩ ⟨.tup [.agg [iV r.1.clock, iV r.1.next, .lst 4 (r.1.list_.map eDLease)], iV r.2.1, iV r.2.2], [], []⟩ := by
 refine fn_ (nl rfl) (seq_ (reg_ (st (box_ rfl tv rfl (st (alloc_ (st (mvc_ tv (st (mvc_ tv (oe_ (wk_ ⟨[(1, iV a1), (2, iV a2), (3, .ptr 192 0), (6, .ptr 384 0)], [(192, [iV a0.clock, iV a0.next, .lst 4 (a0.list_.map eDLease)]), (384, [iV 0, iV 0, .own 387 0 4 (([] : List DLease).map eDLease)])], []⟩ (fgk (by kernel_rfl)) (seq_ (block_ (seq_ (reg_ (st (mv_ rfl tv (st (c_ (cp_ t3 rfl tv) (st (mv_ rfl tv (st (pg_ (u := iV a2) rfl (fun hg => (cmv (v := iV a2) rfl tv)) (st (pg_ (u := iV a1) rfl (fun hg => (cmv (v := iV a1) rfl tv)) (st (pg_ (u := .bool (decide (a2 < a1))) rfl (fun hg => (cp_ ⟨(fun _ => hg), (fun _ => hg), tv⟩ rfl tv)) (st (pick_ rfl rfl rfl tv (fun h => eqf h) rfl (st (mv_ rfl tv (oe_ (wk_ ⟨[(1, iV a1), (2, iV a2), (3, .ptr 192 0), (6, .ptr 384 0), (10, .bool (bif (decide (a1 < 1)) then true else (decide (a2 < a1))))], [(192, [iV a0.clock, iV a0.next, .lst 4 (a0.list_.map eDLease)]), (384, [iV 0, iV 0, .own 387 0 4 (([] : List DLease).map eDLease)])], []⟩ (fgk (by kernel_rfl)) (ite_ (cb := (bif (decide (a1 < 1)) then true else (decide (a2 < a1)))) rfl (fun c1 => ?_) (fun c1 => ?_))))))))))))))))))))))))))))))))))))
 ·replace h0 := ip c1 h0
  refine seq_ (reg_ (st (c_ (v := .agg (eDTable a0)) (cp_ ⟨tv, tv⟩ rfl (nl rfl)) (st (stp_ rfl rfl tv rfl rfl rfl (nl rfl) (st (mvc_ tv (st (mvc_ tv (oe_ (wk_ ⟨[(6, .ptr 384 0), (7, iV 0), (8, iV 4)], [(384, [iV a0.clock, iV a0.next, .lst 4 (a0.list_.map eDLease)])], []⟩ (fgk (by kernel_rfl)) ?_)))))))))))
  obtain rfl := Option.some.inj h0
  exact rt_ (ret_ rfl rfl rfl rfl rfl tv)
 ·replace h0 := inb c1 h0
  refine seq_ (reg_ (st (c_ (cp_ ⟨tv, tv⟩ rfl tv) (st (c_ (cp_ ⟨tv, tv⟩ rfl (nl rfl)) (st (c_ (cp_ t3 rfl tv) (st (mv_ rfl tv (oe_ (wk_ ⟨[(1, iV a1), (2, iV a2), (3, .ptr 192 0), (6, .ptr 384 0), (19, .bool (a0.clock == 9223372036854775807))], [(192, [iV a0.clock, iV a0.next, .lst 4 (a0.list_.map eDLease)]), (384, [iV 0, iV 0, .own 387 0 4 (([] : List DLease).map eDLease)])], []⟩ (fgk (by kernel_rfl)) (ite_ (cb := (a0.clock == 9223372036854775807)) rfl (fun c2 => ?_) (fun c2 => ?_)))))))))))))
  ·replace h0 := ip c2 h0
   refine seq_ (reg_ (st (c_ (v := .agg (eDTable a0)) (cp_ ⟨tv, tv⟩ rfl (nl rfl)) (st (stp_ rfl rfl tv rfl rfl rfl (nl rfl) (st (mvc_ tv (st (mvc_ tv (oe_ (wk_ ⟨[(6, .ptr 384 0), (7, iV 0), (8, iV 11)], [(384, [iV a0.clock, iV a0.next, .lst 4 (a0.list_.map eDLease)])], []⟩ (fgk (by kernel_rfl)) ?_)))))))))))
   obtain rfl := Option.some.inj h0
   exact rt_ (ret_ rfl rfl rfl rfl rfl tv)
  ·replace h0 := inb c2 h0
   refine seq_ (reg_ (st (c_ (cp_ ⟨tv, tv⟩ rfl tv) (st (c_ (cp_ ⟨tv, tv⟩ rfl (nl rfl)) (st (c_ (clenL (e := eDLease) (l0 := a0.list_) rfl rfl tv) (st (c_ (cp_ t3 rfl tv) (st (mv_ rfl tv (st (pg_ (u := .ptr 192 1) rfl (fun hg => (cp_ ⟨tv, tv⟩ rfl tv)) (st (pg_ (u := iV a0.next) rfl (fun hg => (cp_ ⟨(fun _ => hg), tv⟩ rfl (nl rfl))) (st (pg_ (u := .bool (a0.next == 1000000)) rfl (fun hg => (cp_ ⟨(fun _ => hg), tv, tv⟩ rfl tv)) (st (pick_ rfl rfl rfl tv (fun h => eqf h) rfl (st (mv_ rfl tv (oe_ ?_))))))))))))))))))))))
   obtain ⟨v3, e4, h0⟩ := bl h0
   refine wk_ ⟨[(1, iV a1), (2, iV a2), (3, .ptr 192 0), (6, .ptr 384 0), (24, .bool v3)], [(192, [iV a0.clock, iV a0.next, .lst 4 (a0.list_.map eDLease)]), (384, [iV 0, iV 0, .own 387 0 4 (([] : List DLease).map eDLease)])], []⟩ (fgk (by subst e4; kernel_rfl)) (ite_ (cb := v3) rfl (fun c5 => ?_) (fun c5 => ?_))
   ·replace h0 := ip c5 h0
    refine seq_ (reg_ (st (c_ (v := .agg (eDTable a0)) (cp_ ⟨tv, tv⟩ rfl (nl rfl)) (st (stp_ rfl rfl tv rfl rfl rfl (nl rfl) (st (mvc_ tv (st (mvc_ tv (oe_ (wk_ ⟨[(6, .ptr 384 0), (7, iV 0), (8, iV 9)], [(384, [iV a0.clock, iV a0.next, .lst 4 (a0.list_.map eDLease)])], []⟩ (fgk (by kernel_rfl)) ?_)))))))))))
    obtain rfl := Option.some.inj h0
    exact rt_ (ret_ rfl rfl rfl rfl rfl tv)
   ·replace h0 := inb c5 h0
    refine sk_ (bn_ (wk_ ⟨[(1, iV a1), (2, iV a2), (3, .ptr 192 0), (6, .ptr 384 0)], [(192, [iV a0.clock, iV a0.next, .lst 4 (a0.list_.map eDLease)]), (384, [iV 0, iV 0, .own 387 0 4 (([] : List DLease).map eDLease)])], []⟩ (fgk (by kernel_rfl)) (seq_ (reg_ (st (c_ (v := .agg (eDTable a0)) (cp_ ⟨tv, tv⟩ rfl (nl rfl)) ?_))))))
    obtain ⟨r6, e7, h0⟩ := bnd h0
    refine st (call0_ (r := .agg [iV r6.clock, iV r6.next, .own 0 0 4 (r6.list_.map eDLease)]) false (H111 a0 r6 e7) ⟨tv, tv⟩ rfl rfl (fun _ => (and_ rfl (and_ rfl (and_ (fl1 (fun _ => rfl)) rfl)))) (st (alloc_ (st (stp_ rfl rfl tv rfl rfl rfl (nl rfl) (oe_ (wk_ ⟨[(1, iV a1), (2, iV a2), (3, .ptr 192 0), (6, .ptr 384 0), (9, .ptr 576 0)], [(192, [iV a0.clock, iV a0.next, .lst 4 (a0.list_.map eDLease)]), (384, [iV 0, iV 0, .own 387 0 4 (([] : List DLease).map eDLease)]), (576, [iV r6.clock, iV r6.next, .own 2304 0 4 (r6.list_.map eDLease)])], []⟩ (fgk (by kernel_rfl)) (seq_ ?_))))))))
    obtain ⟨r8, e9, h0⟩ := bnd h0
    obtain ⟨r10, e11, h0⟩ := bnd h0
    obtain ⟨c12, h0⟩ := grd h0
    refine draw_ (dtake tv (c_ (cp_ ⟨tv, tv⟩ rfl tv) (⟨tv, (dtake tv (c_ (cp_ ⟨tv, tv⟩ rfl (nl rfl)) (⟨tv, (dtake tv (c_ (cp_ ⟨tv, tv⟩ rfl tv) (⟨tv, (dtake tv (c_ (cp_ ⟨tv, tv⟩ rfl (nl rfl)) (⟨tv, (dtake tv (c_ (cp_ ⟨tv, tv⟩ rfl tv) (⟨tv, (dtake tv (c_ (cp_ ⟨tv, tv⟩ rfl (nl rfl)) (⟨tv, (dtake tv (mv_ rfl tv (⟨tv, (dtake tv (c_ (cp_ ⟨tv, tv⟩ rfl tv) (⟨tv, (dtake tv (c_ (cp_ ⟨tv, tv⟩ rfl (nl rfl)) (⟨tv, (dtake tv (mv_ rfl tv (⟨tv, (dalt (call0_ (r := iV r8) false (H53 a0.clock a1 r8 e9) ⟨tv, tv, tv⟩ rfl rfl (fun _ => rfl) (dkw ⟨[(2, iV a2), (3, .ptr 192 0), (6, .ptr 384 0), (9, .ptr 576 0), (37, .ptr 576 2), (38, .own 2304 0 4 (r6.list_.map eDLease)), (39, .ptr 192 1), (40, iV a0.next), (44, iV r8), (45, .ptr 192 0), (46, iV a0.clock), (47, iV a2)], [(192, [iV a0.clock, iV a0.next, .lst 4 (a0.list_.map eDLease)]), (384, [iV 0, iV 0, .own 387 0 4 (([] : List DLease).map eDLease)]), (576, [iV r6.clock, iV r6.next, .own 2304 0 4 (r6.list_.map eDLease)])], []⟩ (fgk (by kernel_rfl)) ⟨[], ⟨⟨.inl tv, (again1 (cmv (v := iV a2) rfl tv) rfl)⟩, ⟨.inl tv, (again1 (cp_ ⟨tv, tv⟩ rfl (nl rfl)) rfl)⟩, ⟨.inl tv, (again1 (cp_ ⟨tv, tv⟩ rfl tv) rfl)⟩, ⟨.inl tv, (again1 (cp_ ⟨tv, tv⟩ rfl (nl rfl)) rfl)⟩, ⟨.inl tv, (again1 (cp_ ⟨tv, tv⟩ rfl tv) rfl)⟩, ⟨.inl tv, (again1 (cp_ ⟨tv, tv⟩ rfl (nl rfl)) rfl)⟩, ⟨.inl tv, (again1 (cp_ ⟨tv, tv⟩ rfl tv) rfl)⟩, tv⟩, tv, (dalt (call0_ (r := iV r10) false (H53 a0.clock a2 r10 e11) ⟨tv, tv, tv⟩ rfl rfl (fun _ => rfl) (dkw ⟨[(3, .ptr 192 0), (6, .ptr 384 0), (9, .ptr 576 0), (37, .ptr 576 2), (38, .own 2304 0 4 (r6.list_.map eDLease)), (39, .ptr 192 1), (40, iV a0.next), (44, iV r8), (48, iV r10)], [(192, [iV a0.clock, iV a0.next, .lst 4 (a0.list_.map eDLease)]), (384, [iV 0, iV 0, .own 387 0 4 (([] : List DLease).map eDLease)]), (576, [iV r6.clock, iV r6.next, .own 2304 0 4 (r6.list_.map eDLease)])], []⟩ (fgk (by kernel_rfl)) ⟨[], ⟨⟨.inl tv, (again1 (cp_ ⟨tv, tv⟩ rfl (nl rfl)) rfl)⟩, ⟨.inl tv, (again1 (cp_ ⟨tv, tv⟩ rfl tv) rfl)⟩, ⟨.inl tv, (again1 (cp_ ⟨tv, tv⟩ rfl (nl rfl)) rfl)⟩, ⟨.inl tv, (again1 (cp_ ⟨tv, tv⟩ rfl tv) rfl)⟩, tv⟩, tv, (dtake tv (c_ (v := .agg [iV a0.next, iV r8, iV r10, .bool false]) (cp_ ⟨tv, tv, tv, tv⟩ rfl ⟨⟨rfl, rfl, nl rfl⟩, ⟨rfl, rfl, nl rfl⟩, ⟨rfl, rfl, nl rfl⟩, tv⟩) (⟨tv, (dalt (mkS_ ⟨tv, tv⟩ ⟨⟨nl rfl, rfl, rfl⟩, tv⟩ (dk0 ⟨[], ⟨⟨.inl tv, (again1 (cp_ ⟨tv, tv⟩ rfl (nl rfl)) rfl)⟩, ⟨.inl tv, (again1 (cp_ ⟨tv, tv⟩ rfl tv) rfl)⟩, tv⟩, tv, (dalt (app_ (e := eDLease) (l0 := r6.list_) (l1 := ([(DLease.mk a0.next r8 r10 false)] : List DLease)) rfl rfl tv rfl (by decide) c12 (dk0 ⟨[], tv, tv, ?_⟩)) dstop)⟩)) dstop)⟩)))⟩)) dstop)⟩)) dstop)⟩)))⟩)))⟩)))⟩)))⟩)))⟩)))⟩)))⟩)))⟩)))⟩)))
    refine dtake tv (c_ (cp_ ⟨tv, tv⟩ rfl tv) (⟨tv, (dalt (stp_ rfl rfl tv rfl rfl rfl (nl rfl) (dk0 ⟨[], tv, tv, (dfin (wk_ ⟨[(3, .ptr 192 0), (6, .ptr 384 0), (9, .ptr 576 0)], [(192, [iV a0.clock, iV a0.next, .lst 4 (a0.list_.map eDLease)]), (384, [iV 0, iV 0, .own 387 0 4 (([] : List DLease).map eDLease)]), (576, [iV r6.clock, iV r6.next, .own 2304 0 4 ((r6.list_ ++ ([(DLease.mk a0.next r8 r10 false)] : List DLease)).map eDLease)])], []⟩ (fgk (by kernel_rfl)) (seq_ (reg_ (st (c_ (cp_ ⟨tv, tv⟩ rfl tv) (st (c_ (cp_ ⟨tv, tv⟩ rfl (nl rfl)) (st (c_ (cp_ t3 rfl tv) (st (c_ (cp_ ⟨tv, tv⟩ rfl tv) (st (stp_ rfl rfl tv rfl rfl rfl (nl rfl) (oe_ (wk_ ⟨[(3, .ptr 192 0), (6, .ptr 384 0), (9, .ptr 576 0)], [(192, [iV a0.clock, iV a0.next, .lst 4 (a0.list_.map eDLease)]), (384, [iV 0, iV 0, .own 387 0 4 (([] : List DLease).map eDLease)]), (576, [iV r6.clock, iV (IntKind.i64.wrap (r6.next + 1)), .own 2304 0 4 ((r6.list_ ++ ([(DLease.mk a0.next r8 r10 false)] : List DLease)).map eDLease)])], []⟩ (fgk (by kernel_rfl)) (seq_ (draw_ (dtake tv (c_ (v := .agg [iV r6.clock, iV (IntKind.i64.wrap (r6.next + 1)), .own 2304 0 4 ((r6.list_ ++ ([(DLease.mk a0.next r8 r10 false)] : List DLease)).map eDLease)]) (cp_ ⟨tv, tv⟩ rfl (nl rfl)) (⟨tv, (dtake tv (c_ (cp_ ⟨tv, tv⟩ rfl tv) (⟨tv, (dtake tv (c_ (cp_ ⟨tv, tv⟩ rfl (nl rfl)) (⟨tv, (dalt (stp_ rfl rfl tv rfl rfl rfl (nl rfl) (dk0 ⟨[], ⟨⟨.inl tv, (again1 (cp_ ⟨tv, tv⟩ rfl (nl rfl)) rfl)⟩, ⟨.inl tv, (again1 (cp_ ⟨tv, tv⟩ rfl tv) rfl)⟩, tv⟩, tv, (dtake tv (mv_ rfl tv (⟨tv, (dtake tv (mvc_ tv (⟨tv, (dfin (wk_ ⟨[(6, .ptr 384 0), (7, iV a0.next), (8, iV 0)], [(384, [iV r6.clock, iV (IntKind.i64.wrap (r6.next + 1)), .lst 4 ((r6.list_ ++ ([(DLease.mk a0.next r8 r10 false)] : List DLease)).map eDLease)])], []⟩ (fgzk [2304] (by kernel_rfl)) ?_))⟩)))⟩)))⟩)) dstop)⟩)))⟩)))⟩)))))))))))))))))))))⟩)) dstop)⟩))
    obtain rfl := Option.some.inj h0
    exact rt_ (ret_ rfl rfl rfl rfl rfl tv)

/- loop.example/g00149/spec.l09Recover -/
def c133_r0 : List Ins := [⟨some 1, .box (.t 0), none⟩,
⟨some 2, .alloc [(iV 0), (iV 0), (.own 131 0 4 []), (.own 132 0 2 []), (.own 133 0 1 []), (.bool false)], none⟩]
def c133_r1 : List Ins := [(iQ 5 (.load (.t 1) 6 true)),
⟨some 6, .call 102 [(.t 5)], none⟩,
⟨some 3, .alloc [(iV 0), (iV 0), (.own 195 0 4 []), (.own 196 0 2 []), (.own 197 0 1 []), (.bool false)], none⟩,
⟨none, .store (.t 3) (.t 6) 6, none⟩]
def c133_r2 : List Ins := [⟨some 4, .p (.mv (.c (iV 0))), none⟩]
def c133_r3 : List Ins := [(iQ 7 (.mv (.t 4))),
(iQ 8 (.fieldA (.t 3) 3)),
(iQ 9 (.load (.t 8) 1 false)),
(iQ 10 (.len (.t 9))),
(iQ 11 (.bin .lss (.t 7) (.t 10)))]
def c133_r4 : List Ins := [(iQ 14 (.fieldA (.t 3) 3)),
(iQ 15 (.load (.t 14) 1 false)),
(iQ 16 (.mv (.t 4))),
(iQ 17 (.idxA (.t 15) (.t 16) 2)),
(iQ 18 (.fieldA (.t 17) 1)),
⟨none, .store (.t 18) (.c (.bool true)) 1, none⟩]
def c133_r5 : List Ins := [(iQ 12 (.mv (.t 4))),
⟨some 13, .p (.bin .add (.t 12) (.c (iV 1))), none⟩,
(iQ 4 (.mv (.t 13)))]
def c133_l0 : IR := (.seq (.seq (.reg c133_r3) (.ite (.t 11) .skip (.exit 0))) (.seq (.block 1 (.reg c133_r4)) (.reg c133_r5)))
def c133_r6 : List Ins := [(iQ 19 (.fieldA (.t 3) 5)),
⟨none, .store (.t 19) (.c (.bool true)) 1, none⟩]
def c133_r7 : List Ins := [(iQ 20 (.load (.t 3) 6 true)),
⟨none, .store (.t 2) (.t 20) 6, none⟩]
def c133 : XFn := { np := 1, nt := 21, res := [.cell 2 6 true], body := (.seq (.reg c133_r0) (.seq (.reg c133_r1) (.seq (.seq (.reg c133_r2) (.block 0 (.loop c133_l0))) (.seq (.reg c133_r6) (.seq (.reg c133_r7) .ret))))) }
def K133 (C : CRel) : Prop := ∀ (a0 : DVault) (r : DVault), g133 a0 = some r → C 133 ⟨[.agg (eDVault a0)], []⟩ ⟨.agg [iV r.table.clock, iV r.table.next, .own 0 0 4 (r.table.list_.map eDLease), .own 1 0 2 (r.intents.map eDIntent), .own 2 0 1 (r.accounts.map eI), .bool r.sealed], [], []⟩
theorem F133 {C : CRel} (H102 : K102 C) (a0 : DVault) (r : DVault) (h0 : g133 a0 = some r) : FnOK C c133 ⟨[.agg (eDVault a0)], []⟩ ⟨.agg [iV r.table.clock, iV r.table.next, .own 0 0 4 (r.table.list_.map eDLease), .own 1 0 2 (r.intents.map eDIntent), .own 2 0 1 (r.accounts.map eI), .bool r.sealed], [], []⟩ := by
 refine fn_ (nl rfl) (seq_ (reg_ (st (box_ rfl tv rfl (st (alloc_ (oe_ (wk_ ⟨[(1, .ptr 64 0), (2, .ptr 128 0)], [(64, [iV a0.table.clock, iV a0.table.next, .lst 4 (a0.table.list_.map eDLease), .lst 2 (a0.intents.map eDIntent), .lst 1 (a0.accounts.map eI), .bool a0.sealed]), (128, [iV 0, iV 0, .own 131 0 4 (([] : List DLease).map eDLease), .own 132 0 2 (([] : List DIntent).map eDIntent), .own 133 0 1 (([] : List Int).map eI), .bool false])], []⟩ (fgk (by kernel_rfl)) (seq_ (reg_ (st (c_ (v := .agg (eDVault a0)) (cp_ ⟨tv, tv⟩ rfl (nl rfl)) ?_))))))))))))
 obtain ⟨r1, e2, h0⟩ := bnd h0
 refine st (call0_ (r := .agg [iV r1.table.clock, iV r1.table.next, .own 0 0 4 (r1.table.list_.map eDLease), .own 1 0 2 (r1.intents.map eDIntent), .own 2 0 1 (r1.accounts.map eI), .bool r1.sealed]) false (H102 a0 r1 e2) ⟨tv, tv⟩ rfl rfl (fun _ => (and_ rfl (and_ rfl (and_ (fl1 (fun _ => rfl)) (and_ (fl1 (fun _ => rfl)) (and_ (fl1 (fun _ => rfl)) (and_ rfl rfl))))))) (st (alloc_ (st (stp_ rfl rfl tv rfl rfl rfl (nl rfl) (oe_ (wk_ ⟨[(2, .ptr 128 0), (3, .ptr 192 0)], [(128, [iV 0, iV 0, .own 131 0 4 (([] : List DLease).map eDLease), .own 132 0 2 (([] : List DIntent).map eDIntent), .own 133 0 1 (([] : List Int).map eI), .bool false]), (192, [iV r1.table.clock, iV r1.table.next, .own 384 0 4 (r1.table.list_.map eDLease), .own 385 0 2 (r1.intents.map eDIntent), .own 386 0 1 (r1.accounts.map eI), .bool r1.sealed])], []⟩ (fgk (by kernel_rfl)) (seq_ (seq_ (reg_ (st (mvc_ tv (oe_ (wk_ ⟨[(2, .ptr 128 0), (3, .ptr 192 0), (4, iV 0)], [(128, [iV 0, iV 0, .own 131 0 4 (([] : List DLease).map eDLease), .own 132 0 2 (([] : List DIntent).map eDIntent), .own 133 0 1 (([] : List Int).map eI), .bool false]), (192, [iV r1.table.clock, iV r1.table.next, .own 384 0 4 (r1.table.list_.map eDLease), .own 385 0 2 (r1.intents.map eDIntent), .own 386 0 1 (r1.accounts.map eI), .bool r1.sealed])], []⟩ (fgk (by kernel_rfl)) (block_ ?_)))))))))))))))
 obtain ⟨r23, e24, h0⟩ := bnd h0
 refine loop_ (R := (fun S => ∃ p17 : List DIntent, p17 = r23 ∧ S = ⟨[(2, .ptr 128 0), (3, .ptr 192 0)], [(128, [iV 0, iV 0, .own 131 0 4 (([] : List DLease).map eDLease), .own 132 0 2 (([] : List DIntent).map eDIntent), .own 133 0 1 (([] : List Int).map eI), .bool false]), (192, [iV r1.table.clock, iV r1.table.next, .own 384 0 4 (r1.table.list_.map eDLease), .own 385 0 2 (p17.map eDIntent), .own 386 0 1 (r1.accounts.map eI), .bool r1.sealed])], []⟩)) (g133_l0) (fun s S => match s with | (p8, p9) => S = ⟨[(2, .ptr 128 0), (3, .ptr 192 0), (4, iV p8)], [(128, [iV 0, iV 0, .own 131 0 4 (([] : List DLease).map eDLease), .own 132 0 2 (([] : List DIntent).map eDIntent), .own 133 0 1 (([] : List Int).map eI), .bool false]), (192, [iV r1.table.clock, iV r1.table.next, .own 384 0 4 (r1.table.list_.map eDLease), .own 385 0 2 (p9.map eDIntent), .own 386 0 1 (r1.accounts.map eI), .bool r1.sealed])], []⟩) e24 ⟨[(2, .ptr 128 0), (3, .ptr 192 0), (4, iV 0)], [(128, [iV 0, iV 0, .own 131 0 4 (([] : List DLease).map eDLease), .own 132 0 2 (([] : List DIntent).map eDIntent), .own 133 0 1 (([] : List Int).map eI), .bool false]), (192, [iV r1.table.clock, iV r1.table.next, .own 384 0 4 (r1.table.list_.map eDLease), .own 385 0 2 (r1.intents.map eDIntent), .own 386 0 1 (r1.accounts.map eI), .bool r1.sealed])], []⟩ (fgk (by kernel_rfl)) rfl 0 (fun _ => rfl) ?_ ?_
 ·rintro S _ hfg ⟨p17, rfl, rfl⟩
  refine wk_ ⟨[(2, .ptr 128 0), (3, .ptr 192 0)], [(128, [iV 0, iV 0, .own 131 0 4 (([] : List DLease).map eDLease), .own 132 0 2 (([] : List DIntent).map eDIntent), .own 133 0 1 (([] : List Int).map eI), .bool false]), (192, [iV r1.table.clock, iV r1.table.next, .own 384 0 4 (r1.table.list_.map eDLease), .own 385 0 2 (p17.map eDIntent), .own 386 0 1 (r1.accounts.map eI), .bool r1.sealed])], []⟩ (fglk hfg (by kernel_rfl)) (seq_ (reg_ (st (c_ (cp_ ⟨tv, tv⟩ rfl tv) (st (stp_ rfl rfl tv rfl rfl rfl (nl rfl) (oe_ (wk_ ⟨[(2, .ptr 128 0), (3, .ptr 192 0)], [(128, [iV 0, iV 0, .own 131 0 4 (([] : List DLease).map eDLease), .own 132 0 2 (([] : List DIntent).map eDIntent), .own 133 0 1 (([] : List Int).map eI), .bool false]), (192, [iV r1.table.clock, iV r1.table.next, .own 384 0 4 (r1.table.list_.map eDLease), .own 385 0 2 (p17.map eDIntent), .own 386 0 1 (r1.accounts.map eI), .bool true])], []⟩ (fgk (by kernel_rfl)) (seq_ (reg_ (st (c_ (v := .agg [iV r1.table.clock, iV r1.table.next, .own 384 0 4 (r1.table.list_.map eDLease), .own 385 0 2 (p17.map eDIntent), .own 386 0 1 (r1.accounts.map eI), .bool true]) (cp_ ⟨tv, tv⟩ rfl (nl rfl)) (st (stp_ rfl rfl tv rfl rfl rfl (nl rfl) (oe_ (wk_ ⟨[(2, .ptr 128 0)], [(128, [iV r1.table.clock, iV r1.table.next, .own 384 0 4 (r1.table.list_.map eDLease), .own 385 0 2 (p17.map eDIntent), .own 386 0 1 (r1.accounts.map eI), .bool true])], []⟩ (fgk (by kernel_rfl)) ?_))))))))))))))))
  obtain rfl := Option.some.inj h0
  exact rt_ (ret_ rfl rfl rfl rfl rfl tv)
 ·rintro ⟨p8, p9⟩ o1 _ K1 rfl h1 hx1 hK1 hE1 hR1
  refine seq_ (seq_ (reg_ (st (mv_ rfl tv (st (c_ (cp_ ⟨tv, tv⟩ rfl tv) (st (c_ (cp_ ⟨tv, tv⟩ rfl (nl rfl)) (st (c_ (clenO (e := eDIntent) (l0 := p9) rfl rfl tv) (st (c_ (cp_ t3 rfl tv) (oe_ (wk_ ⟨[(2, .ptr 128 0), (3, .ptr 192 0), (4, iV p8), (11, .bool (decide (p8 < (p9.length : Int))))], [(128, [iV 0, iV 0, .own 131 0 4 (([] : List DLease).map eDLease), .own 132 0 2 (([] : List DIntent).map eDIntent), .own 133 0 1 (([] : List Int).map eI), .bool false]), (192, [iV r1.table.clock, iV r1.table.next, .own 384 0 4 (r1.table.list_.map eDLease), .own 385 0 2 (p9.map eDIntent), .own 386 0 1 (r1.accounts.map eI), .bool r1.sealed])], []⟩ (fgk (by kernel_rfl)) (ite_ (cb := (decide (p8 < (p9.length : Int)))) rfl (fun c18 => ?_) (fun c18 => ?_))))))))))))))))
  ·replace h1 := ip c18 h1
   refine sk_ (wk_ ⟨[(2, .ptr 128 0), (3, .ptr 192 0), (4, iV p8)], [(128, [iV 0, iV 0, .own 131 0 4 (([] : List DLease).map eDLease), .own 132 0 2 (([] : List DIntent).map eDIntent), .own 133 0 1 (([] : List Int).map eI), .bool false]), (192, [iV r1.table.clock, iV r1.table.next, .own 384 0 4 (r1.table.list_.map eDLease), .own 385 0 2 (p9.map eDIntent), .own 386 0 1 (r1.accounts.map eI), .bool r1.sealed])], []⟩ (fgk (by kernel_rfl)) (seq_ (block_ (reg_ (st (c_ (cp_ ⟨tv, tv⟩ rfl tv) (st (c_ (cp_ ⟨tv, tv⟩ rfl (nl rfl)) (st (mv_ rfl tv ?_))))))))))
   obtain ⟨y19, e20, h1⟩ := bnd h1
   refine st (c_ (cidxO (e := eDIntent) (y := y19) rfl rfl tv rfl rfl tv e20) (st (c_ (cp_ ⟨tv, tv⟩ rfl tv) ?_)))
   obtain ⟨y21, e22, h1⟩ := bnd h1
   refine st (sto_ (y' := (DIntent.mk y21.lease true)) rfl rfl tv rfl rfl rfl rfl e22 (nl rfl) rfl rfl rfl rfl (oe_ (bn_ (wk_ ⟨[(2, .ptr 128 0), (3, .ptr 192 0), (4, iV p8)], [(128, [iV 0, iV 0, .own 131 0 4 (([] : List DLease).map eDLease), .own 132 0 2 (([] : List DIntent).map eDIntent), .own 133 0 1 (([] : List Int).map eI), .bool false]), (192, [iV r1.table.clock, iV r1.table.next, .own 384 0 4 (r1.table.list_.map eDLease), .own 385 0 2 ((p9.set p8.toNat (DIntent.mk y21.lease true)).map eDIntent), .own 386 0 1 (r1.accounts.map eI), .bool r1.sealed])], []⟩ (fg ⟨rfl, rfl, rfl, tv⟩ ⟨rfl, (congrArg (fun z => some (([iV r1.table.clock, iV r1.table.next, .own 384 0 4 (r1.table.list_.map eDLease), .own 385 0 2 z, .own 386 0 1 (r1.accounts.map eI), .bool r1.sealed] : List V))) overlay_map), tv⟩) (reg_ (st (mv_ rfl tv (st (c_ (cp_ t3 rfl tv) (st (mv_ rfl tv (oe_ ?_))))))))))))
   obtain rfl := Option.some.inj h1
   exact hK1 _ rfl _ ⟨[(2, .ptr 128 0), (3, .ptr 192 0), (4, iV (IntKind.i64.wrap (p8 + 1)))], [(128, [iV 0, iV 0, .own 131 0 4 (([] : List DLease).map eDLease), .own 132 0 2 (([] : List DIntent).map eDIntent), .own 133 0 1 (([] : List Int).map eI), .bool false]), (192, [iV r1.table.clock, iV r1.table.next, .own 384 0 4 (r1.table.list_.map eDLease), .own 385 0 2 ((p9.set p8.toNat (DIntent.mk y21.lease true)).map eDIntent), .own 386 0 1 (r1.accounts.map eI), .bool r1.sealed])], []⟩ (fgk (by kernel_rfl)) rfl
  ·replace h1 := inb c18 h1
   obtain rfl := Option.some.inj h1
   obtain rfl := hx1 _ rfl
   refine exQ rfl ?_
   exact hE1 _ ⟨[(2, .ptr 128 0), (3, .ptr 192 0)], [(128, [iV 0, iV 0, .own 131 0 4 (([] : List DLease).map eDLease), .own 132 0 2 (([] : List DIntent).map eDIntent), .own 133 0 1 (([] : List Int).map eI), .bool false]), (192, [iV r1.table.clock, iV r1.table.next, .own 384 0 4 (r1.table.list_.map eDLease), .own 385 0 2 (p9.map eDIntent), .own 386 0 1 (r1.accounts.map eI), .bool r1.sealed])], []⟩ (fgk (by kernel_rfl)) ⟨_, rfl, rfl⟩

/- loop.example/g00149/spec.l09Fate -/
def c145_r0 : List Ins := [⟨some 2, .box (.t 0), none⟩,
⟨some 4, .p (.mv (.c (iV 0))), none⟩]
def c145_r1 : List Ins := [(iQ 5 (.mv (.t 1))),
(iQ 6 (.fieldA (.t 2) 5)),
(iQ 7 (.load (.t 6) 1 false)),
(iQ 8 (.len (.t 7))),
(iQ 9 (.bin .lss (.t 5) (.t 8)))]
def c145_r2 : List Ins := [(iQ 10 (.fieldA (.t 2) 5)),
(iQ 11 (.load (.t 10) 1 false)),
(iQ 12 (.mv (.t 1))),
(iQ 13 (.idxA (.t 11) (.t 12) 1)),
(iQ 14 (.load (.t 13) 1 false)),
(iQ 4 (.mv (.t 14)))]
def c145_r3 : List Ins := [⟨some 4, .p (.mv (.c (iV 0))), none⟩]
def c145 : XFn := { np := 2, nt := 15, res := [.t 4], body := (.seq (.reg c145_r0) (.seq (.seq (.reg c145_r1) (.ite (.t 9) (.seq (.reg c145_r2) .ret) .skip)) (.seq (.reg c145_r3) .ret))) }
def K145 (C : CRel) : Prop := ∀ (a0 : DVaultAct) (a1 : Int) (r : Int), g145 a0 a1 = some r → C 145 ⟨[.agg (eDVaultAct a0), iV a1], []⟩ ⟨iV r, [], []⟩
theorem F145 {C : CRel}  (a0 : DVaultAct) (a1 : Int) (r : Int) (h0 : g145 a0 a1 = some r) : FnOK C c145 ⟨[.agg (eDVaultAct a0), iV a1], []⟩ ⟨iV r, [], []⟩ := by
 refine fn_ (nl rfl) (seq_ (reg_ (st (box_ rfl tv rfl (st (mvc_ tv (oe_ (wk_ ⟨[(1, iV a1), (2, .ptr 128 0)], [(128, [iV a0.kind, iV a0.id, iV a0.ttl, iV a0.most, iV a0.clock, .lst 1 (a0.fates.map eI), iV a0.stop])], []⟩ (fgk (by kernel_rfl)) (seq_ (seq_ (reg_ (st (mv_ rfl tv (st (c_ (cp_ ⟨tv, tv⟩ rfl tv) (st (c_ (cp_ ⟨tv, tv⟩ rfl (nl rfl)) (st (c_ (clenL (e := eI) (l0 := a0.fates) rfl rfl tv) (st (c_ (cp_ t3 rfl tv) (oe_ (wk_ ⟨[(1, iV a1), (2, .ptr 128 0), (9, .bool (decide (a1 < (a0.fates.length : Int))))], [(128, [iV a0.kind, iV a0.id, iV a0.ttl, iV a0.most, iV a0.clock, .lst 1 (a0.fates.map eI), iV a0.stop])], []⟩ (fgk (by kernel_rfl)) (ite_ (cb := (decide (a1 < (a0.fates.length : Int)))) rfl (fun c1 => ?_) (fun c1 => ?_)))))))))))))))))))))))))
 ·replace h0 := ip c1 h0
  refine seq_ (reg_ (st (c_ (cp_ ⟨tv, tv⟩ rfl tv) (st (c_ (cp_ ⟨tv, tv⟩ rfl (nl rfl)) (st (mv_ rfl tv ?_)))))))
  obtain ⟨y2, e3, h0⟩ := bnd h0
  refine st (c_ (cidxL (e := eI) (y := y2) rfl rfl tv rfl rfl tv e3) (st (c_ (cp_ ⟨tv, tv⟩ rfl (nl rfl)) (st (mv_ rfl tv (oe_ (wk_ ⟨[(4, iV y2)], [], []⟩ (fgk (by kernel_rfl)) ?_)))))))
  obtain rfl := Option.some.inj h0
  exact rt_ (ret_ rfl rfl rfl rfl rfl tv)
 ·replace h0 := inb c1 h0
  refine sk_ (wk_ ⟨[], [], []⟩ (fgk (by kernel_rfl)) (seq_ (reg_ (st (mvc_ tv (oe_ (wk_ ⟨[(4, iV 0)], [], []⟩ (fgk (by kernel_rfl)) ?_)))))))
  obtain rfl := Option.some.inj h0
  exact rt_ (ret_ rfl rfl rfl rfl rfl tv)

/- loop.example/g00149/spec.l09Issue -/
def c132_r0 : List Ins := [⟨some 2, .box (.t 0), none⟩,
⟨some 3, .box (.t 1), none⟩,
⟨some 4, .alloc [(iV 0), (iV 0), (.own 259 0 4 []), (.own 260 0 2 []), (.own 261 0 1 []), (.bool false)], none⟩,
⟨some 5, .alloc [(iV 0), (iV 0)], none⟩]
def c132_r1 : List Ins := [(iQ 11 (.fieldA (.t 2) 0)),
(iQ 12 (.load (.t 11) 3 true)),
(iQ 13 (.fieldA (.t 3) 2)),
(iQ 14 (.load (.t 13) 1 false)),
(iQ 15 (.fieldA (.t 3) 3)),
(iQ 16 (.load (.t 15) 1 false)),
⟨some 17, .call 70 [(.t 12), (.t 14), (.t 16)], none⟩,
(iQ 10 (.mv (.t 17))),
(iQ 18 (.ext (.t 10) 0)),
(iQ 19 (.ext (.t 10) 1)),
(iQ 20 (.ext (.t 10) 2)),
⟨some 6, .alloc [(iV 0), (iV 0), (.own 387 0 4 [])], none⟩,
⟨none, .store (.t 6) (.t 18) 3, none⟩,
(iQ 7 (.mv (.t 19))),
(iQ 8 (.mv (.t 20)))]
def c132_r2 : List Ins := [(iQ 21 (.mv (.t 8))),
⟨some 22, .p (.bin .eql (.t 21) (.c (iV 0))), none⟩,
(iQ 23 (.mv (.t 22))),
⟨some 24, .p (.fieldA (.t 2) 3), some (23, true)⟩,
⟨some 25, .p (.load (.t 24) 1 false), some (23, true)⟩,
⟨some 26, .p (.len (.t 25)), some (23, true)⟩,
⟨some 27, .p (.bin .eql (.t 26) (.c (iV 40))), some (23, true)⟩,
⟨some 28, .pick (.t 23) (.t 27) (.c (.bool false)), none⟩]
def c132_r3 : List Ins := [⟨some 8, .p (.mv (.c (iV 9))), none⟩]
def c132_r4 : List Ins := [(iQ 29 (.mv (.t 8))),
⟨some 30, .p (.bin .neq (.t 29) (.c (iV 0))), none⟩]
def c132_r5 : List Ins := [(iQ 31 (.load (.t 2) 6 true)),
(iQ 32 (.mv (.t 8))),
⟨some 33, .p (.build [(iV 0), (iV 0)] [(0, 1, (.t 32))]), none⟩,
⟨none, .store (.t 4) (.t 31) 6, none⟩,
⟨none, .store (.t 5) (.t 33) 2, none⟩]
def c132_r6 : List Ins := [(iQ 34 (.load (.t 2) 6 true)),
⟨some 35, .call 102 [(.t 34)], none⟩,
⟨some 9, .alloc [(iV 0), (iV 0), (.own 579 0 4 []), (.own 580 0 2 []), (.own 581 0 1 []), (.bool false)], none⟩,
⟨none, .store (.t 9) (.t 35) 6, none⟩]
def c132_r7 : List Ins := [(iQ 36 (.fieldA (.t 6) 1)),
(iQ 37 (.load (.t 36) 1 false)),
(iQ 38 (.fieldA (.t 9) 0)),
(iQ 39 (.fieldA (.t 38) 1)),
⟨none, .store (.t 39) (.t 37) 1, none⟩]
def c132_r8 : List Ins := [(iQ 40 (.fieldA (.t 9) 3)),
(iQ 41 (.load (.t 40) 1 false)),
(iQ 42 (.mv (.t 7))),
⟨some 43, .p (.build [(iV 0), (.bool false)] [(0, 1, (.t 42))]), none⟩,
⟨some 44, .mkS 2 [(iV 0), (.bool false)] 1 [(0, (.t 43))], none⟩,
⟨some 45, .app 2 16 (.t 41) (.t 44), none⟩,
(iQ 46 (.fieldA (.t 9) 3)),
⟨none, .store (.t 46) (.t 45) 1, none⟩]
def c132_r9 : List Ins := [(iQ 47 (.fieldA (.t 3) 6)),
(iQ 48 (.load (.t 47) 1 false)),
⟨some 49, .p (.bin .eql (.t 48) (.c (iV 1))), none⟩]
def c132_r10 : List Ins := [(iQ 50 (.load (.t 9) 6 true)),
⟨some 51, .call 133 [(.t 50)], none⟩,
⟨some 52, .p (.build [(iV 0), (iV 0)] [(0, 1, (.c (iV 15)))]), none⟩,
⟨none, .store (.t 4) (.t 51) 6, none⟩,
⟨none, .store (.t 5) (.t 52) 2, none⟩]
def c132_r11 : DP := (.take (iQ 54 (.fieldA (.t 9) 4))
(.take (iQ 55 (.load (.t 54) 1 false))
(.take (iQ 56 (.mv (.t 7)))
(.take (iQ 57 (.load (.t 3) 7 true))
(.alt [(iQ 56 (.mv (.t 7))), (iQ 55 (.load (.t 54) 1 false)), (iQ 54 (.fieldA (.t 9) 4))] ⟨some 58, .call 145 [(.t 57), (.c (iV 0))], none⟩
(.alt [] ⟨some 59, .call 86 [(.t 55), (.t 56), (.c (.bool true)), (.t 58)], none⟩
(.take (iQ 53 (.mv (.t 59)))
(.take (iQ 60 (.ext (.t 53) 0))
(.take (iQ 61 (.ext (.t 53) 1))
(.take (iQ 62 (.fieldA (.t 9) 4))
(.alt [(iQ 61 (.ext (.t 53) 1))] ⟨none, .store (.t 62) (.t 60) 1, none⟩
(.take (iQ 8 (.mv (.t 61)))
.fin)
.stop)))))
.stop)
.stop)))))
def c132_r12 : List Ins := [(iQ 63 (.fieldA (.t 3) 6)),
(iQ 64 (.load (.t 63) 1 false)),
⟨some 65, .p (.bin .eql (.t 64) (.c (iV 2))), none⟩]
def c132_r13 : List Ins := [(iQ 66 (.load (.t 9) 6 true)),
⟨some 67, .call 133 [(.t 66)], none⟩,
⟨some 68, .p (.build [(iV 0), (iV 0)] [(0, 1, (.c (iV 15)))]), none⟩,
⟨none, .store (.t 4) (.t 67) 6, none⟩,
⟨none, .store (.t 5) (.t 68) 2, none⟩]
def c132_r14 : List Ins := [(iQ 69 (.mv (.t 8))),
⟨some 70, .p (.bin .neq (.t 69) (.c (iV 0))), none⟩]
def c132_r15 : List Ins := [(iQ 71 (.fieldA (.t 9) 3)),
(iQ 72 (.load (.t 71) 1 false)),
(iQ 73 (.fieldA (.t 9) 3)),
(iQ 74 (.load (.t 73) 1 false)),
(iQ 75 (.len (.t 74))),
⟨some 76, .p (.bin .sub (.t 75) (.c (iV 1))), none⟩,
(iQ 77 (.idxA (.t 72) (.t 76) 2)),
(iQ 78 (.fieldA (.t 77) 1)),
⟨none, .store (.t 78) (.c (.bool true)) 1, none⟩]
def c132_r16 : List Ins := [(iQ 79 (.load (.t 9) 6 true)),
(iQ 80 (.mv (.t 8))),
⟨some 81, .p (.build [(iV 0), (iV 0)] [(0, 1, (.t 80))]), none⟩,
⟨none, .store (.t 4) (.t 79) 6, none⟩,
⟨none, .store (.t 5) (.t 81) 2, none⟩]
def c132_r17 : List Ins := [(iQ 82 (.fieldA (.t 9) 3)),
(iQ 83 (.load (.t 82) 1 false)),
(iQ 84 (.fieldA (.t 9) 3)),
(iQ 85 (.load (.t 84) 1 false)),
(iQ 86 (.len (.t 85))),
⟨some 87, .p (.bin .sub (.t 86) (.c (iV 1))), none⟩,
⟨some 88, .p (.slice (.t 83) none (some (.t 87)) 2), none⟩,
(iQ 89 (.fieldA (.t 9) 3)),
⟨none, .store (.t 89) (.t 88) 1, none⟩]
def c132_r18 : List Ins := [(iQ 90 (.load (.t 6) 3 true)),
(iQ 91 (.fieldA (.t 9) 0)),
⟨none, .store (.t 91) (.t 90) 3, none⟩]
def c132_r19 : List Ins := [(iQ 92 (.load (.t 9) 6 true)),
(iQ 93 (.mv (.t 7))),
⟨some 94, .p (.build [(iV 0), (iV 0)] [(1, 1, (.t 93))]), none⟩,
⟨none, .store (.t 4) (.t 92) 6, none⟩,
⟨none, .store (.t 5) (.t 94) 2, none⟩]
def c132 : XFn := { np := 2, nt := 95, res := [.cell 4 6 true, .cell 5 2 true], body := (.seq (.reg c132_r0) (.seq (.reg c132_r1) (.seq (.seq (.reg c132_r2) (.ite (.t 28) (.reg c132_r3) .skip)) (.seq (.seq (.reg c132_r4) (.ite (.t 30) (.seq (.reg c132_r5) .ret) .skip)) (.seq (.reg c132_r6) (.seq (.reg c132_r7) (.seq (.reg c132_r8) (.seq (.seq (.reg c132_r9) (.ite (.t 49) (.seq (.reg c132_r10) .ret) .skip)) (.seq (.draw c132_r11) (.seq (.seq (.reg c132_r12) (.ite (.t 65) (.seq (.reg c132_r13) .ret) .skip)) (.seq (.seq (.reg c132_r14) (.ite (.t 70) (.seq (.reg c132_r15) (.seq (.reg c132_r16) .ret)) .skip)) (.seq (.reg c132_r17) (.seq (.reg c132_r18) (.seq (.reg c132_r19) .ret)))))))))))))) }
def K132 (C : CRel) : Prop := ∀ (a0 : DVault) (a1 : DVaultAct) (r : DVault × DVaultReply), g132 a0 a1 = some r → C 132 ⟨[.agg (eDVault a0), .agg (eDVaultAct a1)], []⟩ ⟨.tup [.agg [iV r.1.table.clock, iV r.1.table.next, .lst 4 (r.1.table.list_.map eDLease), .lst 2 (r.1.intents.map eDIntent), .lst 1 (r.1.accounts.map eI), .bool r.1.sealed], .agg [iV r.2.code_, iV r.2.id]], [], []⟩
theorem F132 {C : CRel} (H70 : K70 C) (H86 : K86 C) (H102 : K102 C) (H133 : K133 C) (H145 : K145 C) (a0 : DVault) (a1 : DVaultAct) (r : DVault × DVaultReply) (h0 : g132 a0 a1 = some r) : FnOK C c132 ⟨[.agg (eDVault a0), .agg (eDVaultAct a1)], []⟩ ⟨.tup [.agg [iV r.1.table.clock, iV r.1.table.next, .lst 4 (r.1.table.list_.map eDLease), .lst 2 (r.1.intents.map eDIntent), .lst 1 (r.1.accounts.map eI), .bool r.1.sealed], .agg [iV r.2.code_, iV r.2.id]], [], []⟩ := by
 refine fn_ (nl rfl) (seq_ (reg_ (st (box_ rfl tv rfl (st (box_ rfl tv rfl (st (alloc_ (st (alloc_ (oe_ (wk_ ⟨[(2, .ptr 128 0), (3, .ptr 192 0), (4, .ptr 256 0), (5, .ptr 320 0)], [(128, [iV a0.table.clock, iV a0.table.next, .lst 4 (a0.table.list_.map eDLease), .lst 2 (a0.intents.map eDIntent), .lst 1 (a0.accounts.map eI), .bool a0.sealed]), (192, [iV a1.kind, iV a1.id, iV a1.ttl, iV a1.most, iV a1.clock, .lst 1 (a1.fates.map eI), iV a1.stop]), (256, [iV 0, iV 0, .own 259 0 4 (([] : List DLease).map eDLease), .own 260 0 2 (([] : List DIntent).map eDIntent), .own 261 0 1 (([] : List Int).map eI), .bool false]), (320, [iV 0, iV 0])], []⟩ (fgk (by kernel_rfl)) (seq_ (reg_ (st (c_ (cp_ ⟨tv, tv⟩ rfl tv) (st (c_ (v := .agg [iV a0.table.clock, iV a0.table.next, .lst 4 (a0.table.list_.map eDLease)]) (cp_ ⟨tv, tv⟩ rfl (nl rfl)) (st (c_ (cp_ ⟨tv, tv⟩ rfl tv) (st (c_ (cp_ ⟨tv, tv⟩ rfl (nl rfl)) (st (c_ (cp_ ⟨tv, tv⟩ rfl tv) (st (c_ (cp_ ⟨tv, tv⟩ rfl (nl rfl)) ?_))))))))))))))))))))))))))
 obtain ⟨r1, e2, h0⟩ := bnd h0
 refine st (call0_ (r := .tup [.agg [iV r1.1.clock, iV r1.1.next, .lst 4 (r1.1.list_.map eDLease)], iV r1.2.1, iV r1.2.2]) true (H70 a0.table a1.ttl a1.most r1 e2) ⟨tv, tv, tv, tv⟩ rfl rfl (fun h => nomatch h) (st (mv_ rfl tv (st (c_ (cp_ ⟨tv, tv⟩ rfl tv) (st (c_ (cp_ ⟨tv, tv⟩ rfl tv) (st (c_ (cp_ ⟨tv, tv⟩ rfl tv) (st (alloc_ (sw ⟨[(2, .ptr 128 0), (3, .ptr 192 0), (4, .ptr 256 0), (5, .ptr 320 0), (6, .ptr 384 0), (18, .agg [iV r1.1.clock, iV r1.1.next, .lst 4 (r1.1.list_.map eDLease)]), (19, iV r1.2.1), (20, iV r1.2.2)], [(128, [iV a0.table.clock, iV a0.table.next, .lst 4 (a0.table.list_.map eDLease), .lst 2 (a0.intents.map eDIntent), .lst 1 (a0.accounts.map eI), .bool a0.sealed]), (192, [iV a1.kind, iV a1.id, iV a1.ttl, iV a1.most, iV a1.clock, .lst 1 (a1.fates.map eI), iV a1.stop]), (256, [iV 0, iV 0, .own 259 0 4 (([] : List DLease).map eDLease), .own 260 0 2 (([] : List DIntent).map eDIntent), .own 261 0 1 (([] : List Int).map eI), .bool false]), (320, [iV 0, iV 0]), (384, [iV 0, iV 0, .own 387 0 4 (([] : List DLease).map eDLease)])], []⟩ (fgk (by kernel_rfl)) (stp_ rfl rfl tv rfl rfl rfl (nl rfl) (st (mv_ rfl tv (st (mv_ rfl tv (oe_ (wk_ ⟨[(2, .ptr 128 0), (3, .ptr 192 0), (4, .ptr 256 0), (5, .ptr 320 0), (6, .ptr 384 0), (7, iV r1.2.1), (8, iV r1.2.2)], [(128, [iV a0.table.clock, iV a0.table.next, .lst 4 (a0.table.list_.map eDLease), .lst 2 (a0.intents.map eDIntent), .lst 1 (a0.accounts.map eI), .bool a0.sealed]), (192, [iV a1.kind, iV a1.id, iV a1.ttl, iV a1.most, iV a1.clock, .lst 1 (a1.fates.map eI), iV a1.stop]), (256, [iV 0, iV 0, .own 259 0 4 (([] : List DLease).map eDLease), .own 260 0 2 (([] : List DIntent).map eDIntent), .own 261 0 1 (([] : List Int).map eI), .bool false]), (320, [iV 0, iV 0]), (384, [iV r1.1.clock, iV r1.1.next, .lst 4 (r1.1.list_.map eDLease)])], []⟩ (fgk (by kernel_rfl)) (seq_ (seq_ (reg_ (st (mv_ rfl tv (st (c_ (cp_ t3 rfl tv) (st (mv_ rfl tv (st (pg_ (u := .ptr 128 3) rfl (fun hg => (cp_ ⟨tv, tv⟩ rfl tv)) (st (pg_ (u := .lst 2 (a0.intents.map eDIntent)) rfl (fun hg => (cp_ ⟨(fun _ => hg), tv⟩ rfl (nl rfl))) (st (pg_ (u := iV (a0.intents.length : Int)) rfl (fun hg => (clenL (e := eDIntent) (l0 := a0.intents) rfl rfl (fun _ => hg))) (st (pg_ (u := .bool ((a0.intents.length : Int) == 40)) rfl (fun hg => (cp_ ⟨(fun _ => hg), tv, tv⟩ rfl tv)) (st (pick_ rfl rfl rfl (fun h => eqt h) tv rfl (oe_ (wk_ ⟨[(2, .ptr 128 0), (3, .ptr 192 0), (4, .ptr 256 0), (5, .ptr 320 0), (6, .ptr 384 0), (7, iV r1.2.1), (8, iV r1.2.2), (28, .bool (bif (r1.2.2 == 0) then ((a0.intents.length : Int) == 40) else false))], [(128, [iV a0.table.clock, iV a0.table.next, .lst 4 (a0.table.list_.map eDLease), .lst 2 (a0.intents.map eDIntent), .lst 1 (a0.accounts.map eI), .bool a0.sealed]), (192, [iV a1.kind, iV a1.id, iV a1.ttl, iV a1.most, iV a1.clock, .lst 1 (a1.fates.map eI), iV a1.stop]), (256, [iV 0, iV 0, .own 259 0 4 (([] : List DLease).map eDLease), .own 260 0 2 (([] : List DIntent).map eDIntent), .own 261 0 1 (([] : List Int).map eI), .bool false]), (320, [iV 0, iV 0]), (384, [iV r1.1.clock, iV r1.1.next, .lst 4 (r1.1.list_.map eDLease)])], []⟩ (fgk (by kernel_rfl)) (iteJ (cb := (bif (r1.2.2 == 0) then ((a0.intents.length : Int) == 40) else false)) (fun S => ∃ p4 : Int, S = ⟨[(2, .ptr 128 0), (3, .ptr 192 0), (4, .ptr 256 0), (5, .ptr 320 0), (6, .ptr 384 0), (7, iV r1.2.1), (8, iV p4)], [(128, [iV a0.table.clock, iV a0.table.next, .lst 4 (a0.table.list_.map eDLease), .lst 2 (a0.intents.map eDIntent), .lst 1 (a0.accounts.map eI), .bool a0.sealed]), (192, [iV a1.kind, iV a1.id, iV a1.ttl, iV a1.most, iV a1.clock, .lst 1 (a1.fates.map eI), iV a1.stop]), (256, [iV 0, iV 0, .own 259 0 4 (([] : List DLease).map eDLease), .own 260 0 2 (([] : List DIntent).map eDIntent), .own 261 0 1 (([] : List Int).map eI), .bool false]), (320, [iV 0, iV 0]), (384, [iV r1.1.clock, iV r1.1.next, .lst 4 (r1.1.list_.map eDLease)])], []⟩ ∧ g132_j0 a0 a1 r1 p4 = some r) rfl ?_ (fun c27 J26 => ?_) (fun c27 J26 => ?_))))))))))))))))))))))))))))))))))))))))))
 ·rintro _ ⟨p4, rfl, h0⟩
  refine wk_ ⟨[(2, .ptr 128 0), (3, .ptr 192 0), (4, .ptr 256 0), (5, .ptr 320 0), (6, .ptr 384 0), (7, iV r1.2.1), (8, iV p4)], [(128, [iV a0.table.clock, iV a0.table.next, .lst 4 (a0.table.list_.map eDLease), .lst 2 (a0.intents.map eDIntent), .lst 1 (a0.accounts.map eI), .bool a0.sealed]), (192, [iV a1.kind, iV a1.id, iV a1.ttl, iV a1.most, iV a1.clock, .lst 1 (a1.fates.map eI), iV a1.stop]), (256, [iV 0, iV 0, .own 259 0 4 (([] : List DLease).map eDLease), .own 260 0 2 (([] : List DIntent).map eDIntent), .own 261 0 1 (([] : List Int).map eI), .bool false]), (320, [iV 0, iV 0]), (384, [iV r1.1.clock, iV r1.1.next, .lst 4 (r1.1.list_.map eDLease)])], []⟩ (fgk (by kernel_rfl)) (seq_ (seq_ (reg_ (st (mv_ rfl tv (st (c_ (cp_ t3 rfl tv) (oe_ (wk_ ⟨[(2, .ptr 128 0), (3, .ptr 192 0), (4, .ptr 256 0), (5, .ptr 320 0), (6, .ptr 384 0), (7, iV r1.2.1), (8, iV p4), (30, .bool (p4 != 0))], [(128, [iV a0.table.clock, iV a0.table.next, .lst 4 (a0.table.list_.map eDLease), .lst 2 (a0.intents.map eDIntent), .lst 1 (a0.accounts.map eI), .bool a0.sealed]), (192, [iV a1.kind, iV a1.id, iV a1.ttl, iV a1.most, iV a1.clock, .lst 1 (a1.fates.map eI), iV a1.stop]), (256, [iV 0, iV 0, .own 259 0 4 (([] : List DLease).map eDLease), .own 260 0 2 (([] : List DIntent).map eDIntent), .own 261 0 1 (([] : List Int).map eI), .bool false]), (320, [iV 0, iV 0]), (384, [iV r1.1.clock, iV r1.1.next, .lst 4 (r1.1.list_.map eDLease)])], []⟩ (fgk (by kernel_rfl)) (ite_ (cb := (p4 != 0)) rfl (fun c5 => ?_) (fun c5 => ?_)))))))))))
  ·replace h0 := ip c5 h0
   refine seq_ (reg_ (st (c_ (v := .agg (eDVault a0)) (cp_ ⟨tv, tv⟩ rfl (nl rfl)) (st (mv_ rfl tv (st (c_ (v := .agg [iV p4, iV 0]) (cp_ ⟨tv, tv⟩ rfl ⟨⟨rfl, rfl, nl rfl⟩, tv⟩) (st (stp_ rfl rfl tv rfl rfl rfl (nl rfl) (st (stp_ rfl rfl tv rfl rfl rfl (nl rfl) (oe_ (wk_ ⟨[(4, .ptr 256 0), (5, .ptr 320 0)], [(256, [iV a0.table.clock, iV a0.table.next, .lst 4 (a0.table.list_.map eDLease), .lst 2 (a0.intents.map eDIntent), .lst 1 (a0.accounts.map eI), .bool a0.sealed]), (320, [iV p4, iV 0])], []⟩ (fgk (by kernel_rfl)) ?_)))))))))))))
   obtain rfl := Option.some.inj h0
   exact rt_ (ret_ rfl rfl rfl rfl rfl tv)
  ·replace h0 := inb c5 h0
   refine sk_ (wk_ ⟨[(2, .ptr 128 0), (3, .ptr 192 0), (4, .ptr 256 0), (5, .ptr 320 0), (6, .ptr 384 0), (7, iV r1.2.1)], [(128, [iV a0.table.clock, iV a0.table.next, .lst 4 (a0.table.list_.map eDLease), .lst 2 (a0.intents.map eDIntent), .lst 1 (a0.accounts.map eI), .bool a0.sealed]), (192, [iV a1.kind, iV a1.id, iV a1.ttl, iV a1.most, iV a1.clock, .lst 1 (a1.fates.map eI), iV a1.stop]), (256, [iV 0, iV 0, .own 259 0 4 (([] : List DLease).map eDLease), .own 260 0 2 (([] : List DIntent).map eDIntent), .own 261 0 1 (([] : List Int).map eI), .bool false]), (320, [iV 0, iV 0]), (384, [iV r1.1.clock, iV r1.1.next, .lst 4 (r1.1.list_.map eDLease)])], []⟩ (fgk (by kernel_rfl)) (seq_ (reg_ (st (c_ (v := .agg (eDVault a0)) (cp_ ⟨tv, tv⟩ rfl (nl rfl)) ?_)))))
   obtain ⟨r6, e7, h0⟩ := bnd h0
   refine st (call0_ (r := .agg [iV r6.table.clock, iV r6.table.next, .own 0 0 4 (r6.table.list_.map eDLease), .own 1 0 2 (r6.intents.map eDIntent), .own 2 0 1 (r6.accounts.map eI), .bool r6.sealed]) false (H102 a0 r6 e7) ⟨tv, tv⟩ rfl rfl (fun _ => (and_ rfl (and_ rfl (and_ (fl1 (fun _ => rfl)) (and_ (fl1 (fun _ => rfl)) (and_ (fl1 (fun _ => rfl)) (and_ rfl rfl))))))) (st (alloc_ (st (stp_ rfl rfl tv rfl rfl rfl (nl rfl) (oe_ (wk_ ⟨[(3, .ptr 192 0), (4, .ptr 256 0), (5, .ptr 320 0), (6, .ptr 384 0), (7, iV r1.2.1), (9, .ptr 576 0)], [(192, [iV a1.kind, iV a1.id, iV a1.ttl, iV a1.most, iV a1.clock, .lst 1 (a1.fates.map eI), iV a1.stop]), (256, [iV 0, iV 0, .own 259 0 4 (([] : List DLease).map eDLease), .own 260 0 2 (([] : List DIntent).map eDIntent), .own 261 0 1 (([] : List Int).map eI), .bool false]), (320, [iV 0, iV 0]), (384, [iV r1.1.clock, iV r1.1.next, .lst 4 (r1.1.list_.map eDLease)]), (576, [iV r6.table.clock, iV r6.table.next, .own 2240 0 4 (r6.table.list_.map eDLease), .own 2241 0 2 (r6.intents.map eDIntent), .own 2242 0 1 (r6.accounts.map eI), .bool r6.sealed])], []⟩ (fgk (by kernel_rfl)) (seq_ (reg_ (st (c_ (cp_ ⟨tv, tv⟩ rfl tv) (st (c_ (cp_ ⟨tv, tv⟩ rfl (nl rfl)) (st (c_ (cp_ ⟨tv, tv⟩ rfl tv) (st (c_ (cp_ ⟨tv, tv⟩ rfl tv) (st (stp_ rfl rfl tv rfl rfl rfl (nl rfl) (oe_ (wk_ ⟨[(3, .ptr 192 0), (4, .ptr 256 0), (5, .ptr 320 0), (6, .ptr 384 0), (7, iV r1.2.1), (9, .ptr 576 0)], [(192, [iV a1.kind, iV a1.id, iV a1.ttl, iV a1.most, iV a1.clock, .lst 1 (a1.fates.map eI), iV a1.stop]), (256, [iV 0, iV 0, .own 259 0 4 (([] : List DLease).map eDLease), .own 260 0 2 (([] : List DIntent).map eDIntent), .own 261 0 1 (([] : List Int).map eI), .bool false]), (320, [iV 0, iV 0]), (384, [iV r1.1.clock, iV r1.1.next, .lst 4 (r1.1.list_.map eDLease)]), (576, [iV r6.table.clock, iV r1.1.next, .own 2240 0 4 (r6.table.list_.map eDLease), .own 2241 0 2 (r6.intents.map eDIntent), .own 2242 0 1 (r6.accounts.map eI), .bool r6.sealed])], []⟩ (fgk (by kernel_rfl)) (seq_ (reg_ (st (c_ (cp_ ⟨tv, tv⟩ rfl tv) (st (c_ (cp_ ⟨tv, tv⟩ rfl (nl rfl)) (st (mv_ rfl tv (st (c_ (v := .agg [iV r1.2.1, .bool false]) (cp_ ⟨tv, tv⟩ rfl ⟨⟨rfl, rfl, nl rfl⟩, tv⟩) (st (mkS_ ⟨tv, tv⟩ ⟨⟨nl rfl, rfl, rfl⟩, tv⟩ ?_)))))))))))))))))))))))))))))))))
   obtain ⟨c8, h0⟩ := grd h0
   refine st (app_ (e := eDIntent) (l0 := r6.intents) (l1 := ([(DIntent.mk r1.2.1 false)] : List DIntent)) rfl rfl tv rfl (by decide) c8 (st (c_ (cp_ ⟨tv, tv⟩ rfl tv) (st (stp_ rfl rfl tv rfl rfl rfl (nl rfl) (oe_ (wk_ ⟨[(3, .ptr 192 0), (4, .ptr 256 0), (5, .ptr 320 0), (6, .ptr 384 0), (7, iV r1.2.1), (9, .ptr 576 0)], [(192, [iV a1.kind, iV a1.id, iV a1.ttl, iV a1.most, iV a1.clock, .lst 1 (a1.fates.map eI), iV a1.stop]), (256, [iV 0, iV 0, .own 259 0 4 (([] : List DLease).map eDLease), .own 260 0 2 (([] : List DIntent).map eDIntent), .own 261 0 1 (([] : List Int).map eI), .bool false]), (320, [iV 0, iV 0]), (384, [iV r1.1.clock, iV r1.1.next, .lst 4 (r1.1.list_.map eDLease)]), (576, [iV r6.table.clock, iV r1.1.next, .own 2240 0 4 (r6.table.list_.map eDLease), .own 2241 0 2 ((r6.intents ++ ([(DIntent.mk r1.2.1 false)] : List DIntent)).map eDIntent), .own 2242 0 1 (r6.accounts.map eI), .bool r6.sealed])], []⟩ (fgk (by kernel_rfl)) (seq_ (seq_ (reg_ (st (c_ (cp_ ⟨tv, tv⟩ rfl tv) (st (c_ (cp_ ⟨tv, tv⟩ rfl (nl rfl)) (st (c_ (cp_ t3 rfl tv) (oe_ (wk_ ⟨[(3, .ptr 192 0), (4, .ptr 256 0), (5, .ptr 320 0), (6, .ptr 384 0), (7, iV r1.2.1), (9, .ptr 576 0), (49, .bool (a1.stop == 1))], [(192, [iV a1.kind, iV a1.id, iV a1.ttl, iV a1.most, iV a1.clock, .lst 1 (a1.fates.map eI), iV a1.stop]), (256, [iV 0, iV 0, .own 259 0 4 (([] : List DLease).map eDLease), .own 260 0 2 (([] : List DIntent).map eDIntent), .own 261 0 1 (([] : List Int).map eI), .bool false]), (320, [iV 0, iV 0]), (384, [iV r1.1.clock, iV r1.1.next, .lst 4 (r1.1.list_.map eDLease)]), (576, [iV r6.table.clock, iV r1.1.next, .own 2240 0 4 (r6.table.list_.map eDLease), .own 2241 0 2 ((r6.intents ++ ([(DIntent.mk r1.2.1 false)] : List DIntent)).map eDIntent), .own 2242 0 1 (r6.accounts.map eI), .bool r6.sealed])], []⟩ (fgk (by kernel_rfl)) (ite_ (cb := (a1.stop == 1)) rfl (fun c9 => ?_) (fun c9 => ?_))))))))))))))))))))
   ·replace h0 := ip c9 h0
    refine seq_ (reg_ (st (c_ (v := .agg [iV r6.table.clock, iV r1.1.next, .own 2240 0 4 (r6.table.list_.map eDLease), .own 2241 0 2 ((r6.intents ++ ([(DIntent.mk r1.2.1 false)] : List DIntent)).map eDIntent), .own 2242 0 1 (r6.accounts.map eI), .bool r6.sealed]) (cp_ ⟨tv, tv⟩ rfl (nl rfl)) ?_)))
    obtain ⟨r10, e11, h0⟩ := bnd h0
    refine st (call0_ (r := .agg [iV r10.table.clock, iV r10.table.next, .own 0 0 4 (r10.table.list_.map eDLease), .own 1 0 2 (r10.intents.map eDIntent), .own 2 0 1 (r10.accounts.map eI), .bool r10.sealed]) false (H133 (DVault.mk (DTable.mk r6.table.clock r1.1.next r6.table.list_) (r6.intents ++ ([(DIntent.mk r1.2.1 false)] : List DIntent)) r6.accounts r6.sealed) r10 e11) ⟨tv, tv⟩ rfl rfl (fun _ => (and_ rfl (and_ rfl (and_ (fl1 (fun _ => rfl)) (and_ (fl1 (fun _ => rfl)) (and_ (fl1 (fun _ => rfl)) (and_ rfl rfl))))))) (st (c_ (v := .agg [iV 15, iV 0]) (cp_ ⟨tv, tv⟩ rfl ⟨⟨rfl, rfl, nl rfl⟩, tv⟩) (st (stp_ rfl rfl tv rfl rfl rfl (nl rfl) (st (stp_ rfl rfl tv rfl rfl rfl (nl rfl) (oe_ (wk_ ⟨[(4, .ptr 256 0), (5, .ptr 320 0)], [(256, [iV r10.table.clock, iV r10.table.next, .lst 4 (r10.table.list_.map eDLease), .lst 2 (r10.intents.map eDIntent), .lst 1 (r10.accounts.map eI), .bool r10.sealed]), (320, [iV 15, iV 0])], []⟩ (fgzk [3264, 3265, 3266] (by kernel_rfl)) ?_)))))))))
    obtain rfl := Option.some.inj h0
    exact rt_ (ret_ rfl rfl rfl rfl rfl tv)
   ·replace h0 := inb c9 h0
    refine sk_ (wk_ ⟨[(3, .ptr 192 0), (4, .ptr 256 0), (5, .ptr 320 0), (6, .ptr 384 0), (7, iV r1.2.1), (9, .ptr 576 0)], [(192, [iV a1.kind, iV a1.id, iV a1.ttl, iV a1.most, iV a1.clock, .lst 1 (a1.fates.map eI), iV a1.stop]), (256, [iV 0, iV 0, .own 259 0 4 (([] : List DLease).map eDLease), .own 260 0 2 (([] : List DIntent).map eDIntent), .own 261 0 1 (([] : List Int).map eI), .bool false]), (320, [iV 0, iV 0]), (384, [iV r1.1.clock, iV r1.1.next, .lst 4 (r1.1.list_.map eDLease)]), (576, [iV r6.table.clock, iV r1.1.next, .own 2240 0 4 (r6.table.list_.map eDLease), .own 2241 0 2 ((r6.intents ++ ([(DIntent.mk r1.2.1 false)] : List DIntent)).map eDIntent), .own 2242 0 1 (r6.accounts.map eI), .bool r6.sealed])], []⟩ (fgk (by kernel_rfl)) (seq_ ?_))
    obtain ⟨r12, e13, h0⟩ := bnd h0
    obtain ⟨r14, e15, h0⟩ := bnd h0
    refine draw_ (dtake tv (c_ (cp_ ⟨tv, tv⟩ rfl tv) (⟨tv, (dtake tv (c_ (cp_ ⟨tv, tv⟩ rfl (nl rfl)) (⟨tv, (dtake tv (mv_ rfl tv (⟨tv, (dtake tv (c_ (v := .agg (eDVaultAct a1)) (cp_ ⟨tv, tv⟩ rfl (nl rfl)) (⟨tv, (dalt (call0_ (r := iV r12) false (H145 a1 0 r12 e13) ⟨tv, tv, tv⟩ rfl rfl (fun _ => rfl) (dkw ⟨[(3, .ptr 192 0), (4, .ptr 256 0), (5, .ptr 320 0), (6, .ptr 384 0), (7, iV r1.2.1), (9, .ptr 576 0), (54, .ptr 576 4), (55, .own 2242 0 1 (r6.accounts.map eI)), (56, iV r1.2.1), (58, iV r12)], [(192, [iV a1.kind, iV a1.id, iV a1.ttl, iV a1.most, iV a1.clock, .lst 1 (a1.fates.map eI), iV a1.stop]), (256, [iV 0, iV 0, .own 259 0 4 (([] : List DLease).map eDLease), .own 260 0 2 (([] : List DIntent).map eDIntent), .own 261 0 1 (([] : List Int).map eI), .bool false]), (320, [iV 0, iV 0]), (384, [iV r1.1.clock, iV r1.1.next, .lst 4 (r1.1.list_.map eDLease)]), (576, [iV r6.table.clock, iV r1.1.next, .own 2240 0 4 (r6.table.list_.map eDLease), .own 2241 0 2 ((r6.intents ++ ([(DIntent.mk r1.2.1 false)] : List DIntent)).map eDIntent), .own 2242 0 1 (r6.accounts.map eI), .bool r6.sealed])], []⟩ (fgk (by kernel_rfl)) ⟨[], ⟨⟨.inl tv, (again1 (cmv (v := iV r1.2.1) rfl tv) rfl)⟩, ⟨.inl tv, (again1 (cp_ ⟨tv, tv⟩ rfl (nl rfl)) rfl)⟩, ⟨.inl tv, (again1 (cp_ ⟨tv, tv⟩ rfl tv) rfl)⟩, tv⟩, tv, (dalt (call0_ (r := .tup [.lst 1 (r14.1.map eI), iV r14.2]) true (H86 r6.accounts r1.2.1 true r12 r14 e15) ⟨tv, tv, tv, tv, tv⟩ rfl rfl (fun h => nomatch h) (dkw ⟨[(3, .ptr 192 0), (4, .ptr 256 0), (5, .ptr 320 0), (6, .ptr 384 0), (7, iV r1.2.1), (9, .ptr 576 0), (59, .tup [.lst 1 (r14.1.map eI), iV r14.2])], [(192, [iV a1.kind, iV a1.id, iV a1.ttl, iV a1.most, iV a1.clock, .lst 1 (a1.fates.map eI), iV a1.stop]), (256, [iV 0, iV 0, .own 259 0 4 (([] : List DLease).map eDLease), .own 260 0 2 (([] : List DIntent).map eDIntent), .own 261 0 1 (([] : List Int).map eI), .bool false]), (320, [iV 0, iV 0]), (384, [iV r1.1.clock, iV r1.1.next, .lst 4 (r1.1.list_.map eDLease)]), (576, [iV r6.table.clock, iV r1.1.next, .own 2240 0 4 (r6.table.list_.map eDLease), .own 2241 0 2 ((r6.intents ++ ([(DIntent.mk r1.2.1 false)] : List DIntent)).map eDIntent), .lst 1 (r6.accounts.map eI), .bool r6.sealed])], []⟩ (fgk (by kernel_rfl)) ⟨[], tv, tv, (dtake tv (mv_ rfl tv (⟨tv, (dtake tv (c_ (cp_ ⟨tv, tv⟩ rfl tv) (⟨tv, (dtake tv (c_ (cp_ ⟨tv, tv⟩ rfl tv) (⟨tv, (dtake tv (c_ (cp_ ⟨tv, tv⟩ rfl tv) (⟨tv, (dalt (stp_ rfl rfl tv rfl rfl rfl (nl rfl) (dk0 ⟨[], ⟨⟨.inl tv, (again1 (cp_ ⟨tv, tv⟩ rfl tv) rfl)⟩, tv⟩, tv, (dtake tv (mv_ rfl tv (⟨tv, (dfin (wk_ ⟨[(3, .ptr 192 0), (4, .ptr 256 0), (5, .ptr 320 0), (6, .ptr 384 0), (7, iV r1.2.1), (8, iV r14.2), (9, .ptr 576 0)], [(192, [iV a1.kind, iV a1.id, iV a1.ttl, iV a1.most, iV a1.clock, .lst 1 (a1.fates.map eI), iV a1.stop]), (256, [iV 0, iV 0, .own 259 0 4 (([] : List DLease).map eDLease), .own 260 0 2 (([] : List DIntent).map eDIntent), .own 261 0 1 (([] : List Int).map eI), .bool false]), (320, [iV 0, iV 0]), (384, [iV r1.1.clock, iV r1.1.next, .lst 4 (r1.1.list_.map eDLease)]), (576, [iV r6.table.clock, iV r1.1.next, .own 2240 0 4 (r6.table.list_.map eDLease), .own 2241 0 2 ((r6.intents ++ ([(DIntent.mk r1.2.1 false)] : List DIntent)).map eDIntent), .lst 1 (r14.1.map eI), .bool r6.sealed])], []⟩ (fgk (by kernel_rfl)) (seq_ (seq_ (reg_ (st (c_ (cp_ ⟨tv, tv⟩ rfl tv) ?_)))))))⟩)))⟩)) dstop)⟩)))⟩)))⟩)))⟩)))⟩)) dstop)⟩)) dstop)⟩)))⟩)))⟩)))⟩)))
    refine st (c_ (cp_ ⟨tv, tv⟩ rfl (nl rfl)) (st (c_ (cp_ t3 rfl tv) (oe_ (wk_ ⟨[(4, .ptr 256 0), (5, .ptr 320 0), (6, .ptr 384 0), (7, iV r1.2.1), (8, iV r14.2), (9, .ptr 576 0), (65, .bool (a1.stop == 2))], [(256, [iV 0, iV 0, .own 259 0 4 (([] : List DLease).map eDLease), .own 260 0 2 (([] : List DIntent).map eDIntent), .own 261 0 1 (([] : List Int).map eI), .bool false]), (320, [iV 0, iV 0]), (384, [iV r1.1.clock, iV r1.1.next, .lst 4 (r1.1.list_.map eDLease)]), (576, [iV r6.table.clock, iV r1.1.next, .own 2240 0 4 (r6.table.list_.map eDLease), .own 2241 0 2 ((r6.intents ++ ([(DIntent.mk r1.2.1 false)] : List DIntent)).map eDIntent), .lst 1 (r14.1.map eI), .bool r6.sealed])], []⟩ (fgk (by kernel_rfl)) (ite_ (cb := (a1.stop == 2)) rfl (fun c16 => ?_) (fun c16 => ?_)))))))
    ·replace h0 := ip c16 h0
     refine seq_ (reg_ (st (c_ (v := .agg [iV r6.table.clock, iV r1.1.next, .own 2240 0 4 (r6.table.list_.map eDLease), .own 2241 0 2 ((r6.intents ++ ([(DIntent.mk r1.2.1 false)] : List DIntent)).map eDIntent), .lst 1 (r14.1.map eI), .bool r6.sealed]) (cp_ ⟨tv, tv⟩ rfl (nl rfl)) ?_)))
     obtain ⟨r17, e18, h0⟩ := bnd h0
     refine st (call0_ (r := .agg [iV r17.table.clock, iV r17.table.next, .own 0 0 4 (r17.table.list_.map eDLease), .own 1 0 2 (r17.intents.map eDIntent), .own 2 0 1 (r17.accounts.map eI), .bool r17.sealed]) false (H133 (DVault.mk (DTable.mk r6.table.clock r1.1.next r6.table.list_) (r6.intents ++ ([(DIntent.mk r1.2.1 false)] : List DIntent)) r14.1 r6.sealed) r17 e18) ⟨tv, tv⟩ rfl rfl (fun _ => (and_ rfl (and_ rfl (and_ (fl1 (fun _ => rfl)) (and_ (fl1 (fun _ => rfl)) (and_ (fl1 (fun _ => rfl)) (and_ rfl rfl))))))) (st (c_ (v := .agg [iV 15, iV 0]) (cp_ ⟨tv, tv⟩ rfl ⟨⟨rfl, rfl, nl rfl⟩, tv⟩) (st (stp_ rfl rfl tv rfl rfl rfl (nl rfl) (st (stp_ rfl rfl tv rfl rfl rfl (nl rfl) (oe_ (wk_ ⟨[(4, .ptr 256 0), (5, .ptr 320 0)], [(256, [iV r17.table.clock, iV r17.table.next, .lst 4 (r17.table.list_.map eDLease), .lst 2 (r17.intents.map eDIntent), .lst 1 (r17.accounts.map eI), .bool r17.sealed]), (320, [iV 15, iV 0])], []⟩ (fgzk [4288, 4289, 4290] (by kernel_rfl)) ?_)))))))))
     obtain rfl := Option.some.inj h0
     exact rt_ (ret_ rfl rfl rfl rfl rfl tv)
    ·replace h0 := inb c16 h0
     refine sk_ (wk_ ⟨[(4, .ptr 256 0), (5, .ptr 320 0), (6, .ptr 384 0), (7, iV r1.2.1), (8, iV r14.2), (9, .ptr 576 0)], [(256, [iV 0, iV 0, .own 259 0 4 (([] : List DLease).map eDLease), .own 260 0 2 (([] : List DIntent).map eDIntent), .own 261 0 1 (([] : List Int).map eI), .bool false]), (320, [iV 0, iV 0]), (384, [iV r1.1.clock, iV r1.1.next, .lst 4 (r1.1.list_.map eDLease)]), (576, [iV r6.table.clock, iV r1.1.next, .own 2240 0 4 (r6.table.list_.map eDLease), .own 2241 0 2 ((r6.intents ++ ([(DIntent.mk r1.2.1 false)] : List DIntent)).map eDIntent), .lst 1 (r14.1.map eI), .bool r6.sealed])], []⟩ (fgk (by kernel_rfl)) (seq_ (seq_ (reg_ (st (mv_ rfl tv (st (c_ (cp_ t3 rfl tv) (oe_ (wk_ ⟨[(4, .ptr 256 0), (5, .ptr 320 0), (6, .ptr 384 0), (7, iV r1.2.1), (8, iV r14.2), (9, .ptr 576 0), (70, .bool (r14.2 != 0))], [(256, [iV 0, iV 0, .own 259 0 4 (([] : List DLease).map eDLease), .own 260 0 2 (([] : List DIntent).map eDIntent), .own 261 0 1 (([] : List Int).map eI), .bool false]), (320, [iV 0, iV 0]), (384, [iV r1.1.clock, iV r1.1.next, .lst 4 (r1.1.list_.map eDLease)]), (576, [iV r6.table.clock, iV r1.1.next, .own 2240 0 4 (r6.table.list_.map eDLease), .own 2241 0 2 ((r6.intents ++ ([(DIntent.mk r1.2.1 false)] : List DIntent)).map eDIntent), .lst 1 (r14.1.map eI), .bool r6.sealed])], []⟩ (fgk (by kernel_rfl)) (ite_ (cb := (r14.2 != 0)) rfl (fun c19 => ?_) (fun c19 => ?_))))))))))))
     ·replace h0 := ip c19 h0
      refine seq_ (reg_ (st (c_ (cp_ ⟨tv, tv⟩ rfl tv) (st (c_ (cp_ ⟨tv, tv⟩ rfl (nl rfl)) (st (c_ (cp_ ⟨tv, tv⟩ rfl tv) (st (c_ (cp_ ⟨tv, tv⟩ rfl (nl rfl)) (st (c_ (clenO (e := eDIntent) (l0 := r6.intents ++ ([(DIntent.mk r1.2.1 false)] : List DIntent)) rfl rfl tv) (st (c_ (cp_ t3 rfl tv) ?_)))))))))))))
      obtain ⟨y20, e21, h0⟩ := bnd h0
      refine st (c_ (cidxO (e := eDIntent) (y := y20) rfl rfl tv rfl rfl tv e21) (st (c_ (cp_ ⟨tv, tv⟩ rfl tv) ?_)))
      obtain ⟨y22, e23, h0⟩ := bnd h0
      refine st (sto_ (y' := (DIntent.mk y22.lease true)) rfl rfl tv rfl rfl rfl rfl e23 (nl rfl) rfl rfl rfl rfl (oe_ (wk_ ⟨[(4, .ptr 256 0), (5, .ptr 320 0), (8, iV r14.2), (9, .ptr 576 0)], [(256, [iV 0, iV 0, .own 259 0 4 (([] : List DLease).map eDLease), .own 260 0 2 (([] : List DIntent).map eDIntent), .own 261 0 1 (([] : List Int).map eI), .bool false]), (320, [iV 0, iV 0]), (576, [iV r6.table.clock, iV r1.1.next, .own 2240 0 4 (r6.table.list_.map eDLease), .own 2241 0 2 (((r6.intents ++ ([(DIntent.mk r1.2.1 false)] : List DIntent)).set ((IntKind.i64.wrap (((r6.intents ++ ([(DIntent.mk r1.2.1 false)] : List DIntent)).length : Int) - 1)).toNat) (DIntent.mk y22.lease true)).map eDIntent), .lst 1 (r14.1.map eI), .bool r6.sealed])], []⟩ (fg ⟨rfl, rfl, rfl, rfl, tv⟩ ⟨rfl, rfl, (congrArg (fun z => some (([iV r6.table.clock, iV r1.1.next, .own 2240 0 4 (r6.table.list_.map eDLease), .own 2241 0 2 z, .lst 1 (r14.1.map eI), .bool r6.sealed] : List V))) overlay_map), tv⟩) (seq_ (reg_ (st (c_ (v := .agg [iV r6.table.clock, iV r1.1.next, .own 2240 0 4 (r6.table.list_.map eDLease), .own 2241 0 2 (((r6.intents ++ ([(DIntent.mk r1.2.1 false)] : List DIntent)).set ((IntKind.i64.wrap (((r6.intents ++ ([(DIntent.mk r1.2.1 false)] : List DIntent)).length : Int) - 1)).toNat) (DIntent.mk y22.lease true)).map eDIntent), .lst 1 (r14.1.map eI), .bool r6.sealed]) (cp_ ⟨tv, tv⟩ rfl (nl rfl)) (st (mv_ rfl tv (st (c_ (v := .agg [iV r14.2, iV 0]) (cp_ ⟨tv, tv⟩ rfl ⟨⟨rfl, rfl, nl rfl⟩, tv⟩) (st (stp_ rfl rfl tv rfl rfl rfl (nl rfl) (st (stp_ rfl rfl tv rfl rfl rfl (nl rfl) (oe_ (wk_ ⟨[(4, .ptr 256 0), (5, .ptr 320 0)], [(256, [iV r6.table.clock, iV r1.1.next, .lst 4 (r6.table.list_.map eDLease), .lst 2 (((r6.intents ++ ([(DIntent.mk r1.2.1 false)] : List DIntent)).set ((IntKind.i64.wrap (((r6.intents ++ ([(DIntent.mk r1.2.1 false)] : List DIntent)).length : Int) - 1)).toNat) (DIntent.mk y22.lease true)).map eDIntent), .lst 1 (r14.1.map eI), .bool r6.sealed]), (320, [iV r14.2, iV 0])], []⟩ (fgzk [2240, 2241] (by kernel_rfl)) ?_)))))))))))))))))
      obtain rfl := Option.some.inj h0
      exact rt_ (ret_ rfl rfl rfl rfl rfl tv)
     ·replace h0 := inb c19 h0
      refine sk_ (wk_ ⟨[(4, .ptr 256 0), (5, .ptr 320 0), (6, .ptr 384 0), (7, iV r1.2.1), (9, .ptr 576 0)], [(256, [iV 0, iV 0, .own 259 0 4 (([] : List DLease).map eDLease), .own 260 0 2 (([] : List DIntent).map eDIntent), .own 261 0 1 (([] : List Int).map eI), .bool false]), (320, [iV 0, iV 0]), (384, [iV r1.1.clock, iV r1.1.next, .lst 4 (r1.1.list_.map eDLease)]), (576, [iV r6.table.clock, iV r1.1.next, .own 2240 0 4 (r6.table.list_.map eDLease), .own 2241 0 2 ((r6.intents ++ ([(DIntent.mk r1.2.1 false)] : List DIntent)).map eDIntent), .lst 1 (r14.1.map eI), .bool r6.sealed])], []⟩ (fgk (by kernel_rfl)) (seq_ (reg_ (st (c_ (cp_ ⟨tv, tv⟩ rfl tv) (st (c_ (cp_ ⟨tv, tv⟩ rfl (nl rfl)) (st (c_ (cp_ ⟨tv, tv⟩ rfl tv) (st (c_ (cp_ ⟨tv, tv⟩ rfl (nl rfl)) (st (c_ (clenO (e := eDIntent) (l0 := r6.intents ++ ([(DIntent.mk r1.2.1 false)] : List DIntent)) rfl rfl tv) (st (c_ (cp_ t3 rfl tv) ?_)))))))))))))))
      obtain ⟨s24, e25, h0⟩ := bnd h0
      refine st (c_ (csliceO (e := eDIntent) (y := s24) rfl rfl tv ⟨tv, tv⟩ rfl rfl e25) (st (c_ (cp_ ⟨tv, tv⟩ rfl tv) (st (stp_ rfl rfl tv rfl rfl rfl (nl rfl) (oe_ (wk_ ⟨[(4, .ptr 256 0), (5, .ptr 320 0), (6, .ptr 384 0), (7, iV r1.2.1), (9, .ptr 576 0)], [(256, [iV 0, iV 0, .own 259 0 4 (([] : List DLease).map eDLease), .own 260 0 2 (([] : List DIntent).map eDIntent), .own 261 0 1 (([] : List Int).map eI), .bool false]), (320, [iV 0, iV 0]), (384, [iV r1.1.clock, iV r1.1.next, .lst 4 (r1.1.list_.map eDLease)]), (576, [iV r6.table.clock, iV r1.1.next, .own 2240 0 4 (r6.table.list_.map eDLease), .own 2241 0 2 (s24.map eDIntent), .lst 1 (r14.1.map eI), .bool r6.sealed])], []⟩ (fgk (by kernel_rfl)) (seq_ (reg_ (st (c_ (v := .agg [iV r1.1.clock, iV r1.1.next, .lst 4 (r1.1.list_.map eDLease)]) (cp_ ⟨tv, tv⟩ rfl (nl rfl)) (st (c_ (cp_ ⟨tv, tv⟩ rfl tv) (st (stp_ rfl rfl tv rfl rfl rfl (nl rfl) (oe_ (wk_ ⟨[(4, .ptr 256 0), (5, .ptr 320 0), (7, iV r1.2.1), (9, .ptr 576 0)], [(256, [iV 0, iV 0, .own 259 0 4 (([] : List DLease).map eDLease), .own 260 0 2 (([] : List DIntent).map eDIntent), .own 261 0 1 (([] : List Int).map eI), .bool false]), (320, [iV 0, iV 0]), (576, [iV r1.1.clock, iV r1.1.next, .lst 4 (r1.1.list_.map eDLease), .own 2241 0 2 (s24.map eDIntent), .lst 1 (r14.1.map eI), .bool r6.sealed])], []⟩ (fgk (by kernel_rfl)) (seq_ (reg_ (st (c_ (v := .agg [iV r1.1.clock, iV r1.1.next, .lst 4 (r1.1.list_.map eDLease), .own 2241 0 2 (s24.map eDIntent), .lst 1 (r14.1.map eI), .bool r6.sealed]) (cp_ ⟨tv, tv⟩ rfl (nl rfl)) (st (mv_ rfl tv (st (c_ (v := .agg [iV 0, iV r1.2.1]) (cp_ ⟨tv, tv⟩ rfl ⟨⟨rfl, rfl, nl rfl⟩, tv⟩) (st (stp_ rfl rfl tv rfl rfl rfl (nl rfl) (st (stp_ rfl rfl tv rfl rfl rfl (nl rfl) (oe_ (wk_ ⟨[(4, .ptr 256 0), (5, .ptr 320 0)], [(256, [iV r1.1.clock, iV r1.1.next, .lst 4 (r1.1.list_.map eDLease), .lst 2 (s24.map eDIntent), .lst 1 (r14.1.map eI), .bool r6.sealed]), (320, [iV 0, iV r1.2.1])], []⟩ (fgzk [2241] (by kernel_rfl)) ?_)))))))))))))))))))))))))))))))
      obtain rfl := Option.some.inj h0
      exact rt_ (ret_ rfl rfl rfl rfl rfl tv)
 ·replace h0 := ip c27 h0
  refine reg_ (st (mvc_ tv (oe_ ?_)))
  exact J26 _ ⟨[(2, .ptr 128 0), (3, .ptr 192 0), (4, .ptr 256 0), (5, .ptr 320 0), (6, .ptr 384 0), (7, iV r1.2.1), (8, iV 9)], [(128, [iV a0.table.clock, iV a0.table.next, .lst 4 (a0.table.list_.map eDLease), .lst 2 (a0.intents.map eDIntent), .lst 1 (a0.accounts.map eI), .bool a0.sealed]), (192, [iV a1.kind, iV a1.id, iV a1.ttl, iV a1.most, iV a1.clock, .lst 1 (a1.fates.map eI), iV a1.stop]), (256, [iV 0, iV 0, .own 259 0 4 (([] : List DLease).map eDLease), .own 260 0 2 (([] : List DIntent).map eDIntent), .own 261 0 1 (([] : List Int).map eI), .bool false]), (320, [iV 0, iV 0]), (384, [iV r1.1.clock, iV r1.1.next, .lst 4 (r1.1.list_.map eDLease)])], []⟩ (fgk (by kernel_rfl)) ⟨_, rfl, h0⟩
 ·replace h0 := inb c27 h0
  refine sk_ ?_
  exact J26 _ ⟨[(2, .ptr 128 0), (3, .ptr 192 0), (4, .ptr 256 0), (5, .ptr 320 0), (6, .ptr 384 0), (7, iV r1.2.1), (8, iV r1.2.2)], [(128, [iV a0.table.clock, iV a0.table.next, .lst 4 (a0.table.list_.map eDLease), .lst 2 (a0.intents.map eDIntent), .lst 1 (a0.accounts.map eI), .bool a0.sealed]), (192, [iV a1.kind, iV a1.id, iV a1.ttl, iV a1.most, iV a1.clock, .lst 1 (a1.fates.map eI), iV a1.stop]), (256, [iV 0, iV 0, .own 259 0 4 (([] : List DLease).map eDLease), .own 260 0 2 (([] : List DIntent).map eDIntent), .own 261 0 1 (([] : List Int).map eI), .bool false]), (320, [iV 0, iV 0]), (384, [iV r1.1.clock, iV r1.1.next, .lst 4 (r1.1.list_.map eDLease)])], []⟩ (fgk (by kernel_rfl)) ⟨_, rfl, h0⟩

/- loop.example/g00149/spec.l08Done -/
def c76_r0 : List Ins := [⟨some 2, .box (.t 0), none⟩,
⟨some 4, .alloc [(iV 0), (iV 0), (.own 259 0 4 [])], none⟩,
⟨some 5, .p (.mv (.c (iV 0))), none⟩]
def c76_r1 : List Ins := [(iQ 8 (.load (.t 2) 3 true)),
(iQ 9 (.mv (.t 1))),
⟨some 10, .call 92 [(.t 8), (.t 9)], none⟩,
(iQ 6 (.mv (.t 10)))]
def c76_r2 : List Ins := [(iQ 11 (.mv (.t 6))),
⟨some 12, .p (.bin .lss (.t 11) (.c (iV 0))), none⟩]
def c76_r3 : List Ins := [(iQ 13 (.load (.t 2) 3 true)),
⟨none, .store (.t 4) (.t 13) 3, none⟩,
⟨some 5, .p (.mv (.c (iV 5))), none⟩]
def c76_r4 : List Ins := [(iQ 14 (.fieldA (.t 2) 2)),
(iQ 15 (.load (.t 14) 1 false)),
(iQ 16 (.mv (.t 6))),
(iQ 17 (.idxA (.t 15) (.t 16) 4)),
(iQ 18 (.fieldA (.t 17) 3)),
(iQ 19 (.load (.t 18) 1 false)),
(iQ 20 (.un .not (.t 19)))]
def c76_r5 : List Ins := [(iQ 21 (.load (.t 2) 3 true)),
⟨none, .store (.t 4) (.t 21) 3, none⟩,
⟨some 5, .p (.mv (.c (iV 13))), none⟩]
def c76_r6 : List Ins := [(iQ 22 (.load (.t 2) 3 true)),
⟨some 7, .alloc [(iV 0), (iV 0), (.own 451 0 4 [])], none⟩,
⟨none, .store (.t 7) (.t 22) 3, none⟩]
def c76_r7 : DP := (.take (iQ 24 (.fieldA (.t 2) 2))
(.take (iQ 25 (.load (.t 24) 1 false))
(.take (iQ 26 (.mv (.t 6)))
(.take ⟨some 27, .p (.slice (.t 25) none (some (.t 26)) 4), none⟩
(.take (iQ 29 (.fieldA (.t 2) 2))
(.take (iQ 30 (.load (.t 29) 1 false))
(.take (iQ 31 (.mv (.t 6)))
(.take ⟨some 32, .p (.bin .add (.t 31) (.c (iV 1))), none⟩
(.take ⟨some 33, .p (.slice (.t 30) (some (.t 32)) none 4), none⟩
(.alt [⟨some 33, .p (.slice (.t 30) (some (.t 32)) none 4), none⟩, ⟨some 32, .p (.bin .add (.t 31) (.c (iV 1))), none⟩, (iQ 31 (.mv (.t 6))), (iQ 30 (.load (.t 29) 1 false)), (iQ 29 (.fieldA (.t 2) 2)), ⟨some 27, .p (.slice (.t 25) none (some (.t 26)) 4), none⟩, (iQ 26 (.mv (.t 6))), (iQ 25 (.load (.t 24) 1 false)), (iQ 24 (.fieldA (.t 2) 2))] ⟨some 23, .mkS 4 [(iV 0), (iV 0), (iV 0), (.bool false)] 0 [], none⟩
(.alt [⟨some 33, .p (.slice (.t 30) (some (.t 32)) none 4), none⟩, ⟨some 32, .p (.bin .add (.t 31) (.c (iV 1))), none⟩, (iQ 31 (.mv (.t 6))), (iQ 30 (.load (.t 29) 1 false)), (iQ 29 (.fieldA (.t 2) 2))] ⟨some 28, .app 4 32 (.t 23) (.t 27), none⟩
(.alt [] ⟨some 34, .app 4 32 (.t 28) (.t 33), none⟩
(.take (iQ 35 (.fieldA (.t 7) 2))
(.alt [] ⟨none, .store (.t 35) (.t 34) 1, none⟩
.fin
.stop))
.stop)
.stop)
.stop))))))))))
def c76_r8 : List Ins := [(iQ 36 (.load (.t 7) 3 true)),
⟨none, .store (.t 4) (.t 36) 3, none⟩,
⟨some 5, .p (.mv (.c (iV 0))), none⟩]
def c76 : XFn := { np := 2, nt := 37, res := [.cell 4 3 true, .t 5], body := (.seq (.reg c76_r0) (.seq (.reg c76_r1) (.seq (.seq (.reg c76_r2) (.ite (.t 12) (.seq (.reg c76_r3) .ret) .skip)) (.seq (.seq (.reg c76_r4) (.ite (.t 20) (.seq (.reg c76_r5) .ret) .skip)) (.seq (.reg c76_r6) (.seq (.draw c76_r7) (.seq (.reg c76_r8) .ret))))))) }
def K76 (C : CRel) : Prop := ∀ (a0 : DTable) (a1 : Int) (r : DTable × Int), g76 a0 a1 = some r → C 76 ⟨[.agg (eDTable a0), iV a1], []⟩ ⟨.tup [.agg [iV r.1.clock, iV r.1.next, .lst 4 (r.1.list_.map eDLease)], iV r.2], [], []⟩
theorem F76 {C : CRel} (H92 : K92 C) (a0 : DTable) (a1 : Int) (r : DTable × Int) (h0 : g76 a0 a1 = some r) : FnOK C c76 ⟨[.agg (eDTable a0), iV a1], []⟩ ⟨.tup [.agg [iV r.1.clock, iV r.1.next, .lst 4 (r.1.list_.map eDLease)], iV r.2], [], []⟩ := by
 refine fn_ (nl rfl) (seq_ (reg_ (st (box_ rfl tv rfl (st (alloc_ (st (mvc_ tv (oe_ (wk_ ⟨[(1, iV a1), (2, .ptr 128 0), (4, .ptr 256 0)], [(128, [iV a0.clock, iV a0.next, .lst 4 (a0.list_.map eDLease)]), (256, [iV 0, iV 0, .own 259 0 4 (([] : List DLease).map eDLease)])], []⟩ (fgk (by kernel_rfl)) (seq_ (reg_ (st (c_ (v := .agg (eDTable a0)) (cp_ ⟨tv, tv⟩ rfl (nl rfl)) (st (mv_ rfl tv ?_))))))))))))))))
 obtain ⟨r1, e2, h0⟩ := bnd h0
 refine st (call0_ (r := iV r1) false (H92 a0 a1 r1 e2) ⟨tv, tv, tv⟩ rfl rfl (fun _ => rfl) (st (mv_ rfl tv (oe_ (wk_ ⟨[(2, .ptr 128 0), (4, .ptr 256 0), (6, iV r1)], [(128, [iV a0.clock, iV a0.next, .lst 4 (a0.list_.map eDLease)]), (256, [iV 0, iV 0, .own 259 0 4 (([] : List DLease).map eDLease)])], []⟩ (fgk (by kernel_rfl)) (seq_ (seq_ (reg_ (st (mv_ rfl tv (st (c_ (cp_ t3 rfl tv) (oe_ (wk_ ⟨[(2, .ptr 128 0), (4, .ptr 256 0), (6, iV r1), (12, .bool (decide (r1 < 0)))], [(128, [iV a0.clock, iV a0.next, .lst 4 (a0.list_.map eDLease)]), (256, [iV 0, iV 0, .own 259 0 4 (([] : List DLease).map eDLease)])], []⟩ (fgk (by kernel_rfl)) (ite_ (cb := (decide (r1 < 0))) rfl (fun c3 => ?_) (fun c3 => ?_))))))))))))))))
 ·replace h0 := ip c3 h0
  refine seq_ (reg_ (st (c_ (v := .agg (eDTable a0)) (cp_ ⟨tv, tv⟩ rfl (nl rfl)) (st (stp_ rfl rfl tv rfl rfl rfl (nl rfl) (st (mvc_ tv (oe_ (wk_ ⟨[(4, .ptr 256 0), (5, iV 5)], [(256, [iV a0.clock, iV a0.next, .lst 4 (a0.list_.map eDLease)])], []⟩ (fgk (by kernel_rfl)) ?_)))))))))
  obtain rfl := Option.some.inj h0
  exact rt_ (ret_ rfl rfl rfl rfl rfl tv)
 ·replace h0 := inb c3 h0
  refine sk_ (wk_ ⟨[(2, .ptr 128 0), (4, .ptr 256 0), (6, iV r1)], [(128, [iV a0.clock, iV a0.next, .lst 4 (a0.list_.map eDLease)]), (256, [iV 0, iV 0, .own 259 0 4 (([] : List DLease).map eDLease)])], []⟩ (fgk (by kernel_rfl)) (seq_ (seq_ (reg_ (st (c_ (cp_ ⟨tv, tv⟩ rfl tv) (st (c_ (cp_ ⟨tv, tv⟩ rfl (nl rfl)) (st (mv_ rfl tv ?_))))))))))
  obtain ⟨y4, e5, h0⟩ := bnd h0
  refine st (c_ (cidxL (e := eDLease) (y := y4) rfl rfl tv rfl rfl tv e5) (st (c_ (cp_ ⟨tv, tv⟩ rfl (nl rfl)) (st (c_ (cp_ ⟨tv, tv⟩ rfl (nl rfl)) (st (c_ (cp_ ⟨tv, tv⟩ rfl tv) (oe_ (wk_ ⟨[(2, .ptr 128 0), (4, .ptr 256 0), (6, iV r1), (20, .bool (!y4.queued))], [(128, [iV a0.clock, iV a0.next, .lst 4 (a0.list_.map eDLease)]), (256, [iV 0, iV 0, .own 259 0 4 (([] : List DLease).map eDLease)])], []⟩ (fgk (by kernel_rfl)) (ite_ (cb := (!y4.queued)) rfl (fun c6 => ?_) (fun c6 => ?_)))))))))))
  ·replace h0 := ip c6 h0
   refine seq_ (reg_ (st (c_ (v := .agg (eDTable a0)) (cp_ ⟨tv, tv⟩ rfl (nl rfl)) (st (stp_ rfl rfl tv rfl rfl rfl (nl rfl) (st (mvc_ tv (oe_ (wk_ ⟨[(4, .ptr 256 0), (5, iV 13)], [(256, [iV a0.clock, iV a0.next, .lst 4 (a0.list_.map eDLease)])], []⟩ (fgk (by kernel_rfl)) ?_)))))))))
   obtain rfl := Option.some.inj h0
   exact rt_ (ret_ rfl rfl rfl rfl rfl tv)
  ·replace h0 := inb c6 h0
   refine sk_ (wk_ ⟨[(2, .ptr 128 0), (4, .ptr 256 0), (6, iV r1)], [(128, [iV a0.clock, iV a0.next, .lst 4 (a0.list_.map eDLease)]), (256, [iV 0, iV 0, .own 259 0 4 (([] : List DLease).map eDLease)])], []⟩ (fgk (by kernel_rfl)) (seq_ (reg_ (st (c_ (v := .agg (eDTable a0)) (cp_ ⟨tv, tv⟩ rfl (nl rfl)) (st (alloc_ (st (stp_ rfl rfl tv rfl rfl rfl (nl rfl) (oe_ (wk_ ⟨[(2, .ptr 128 0), (4, .ptr 256 0), (6, iV r1), (7, .ptr 448 0)], [(128, [iV a0.clock, iV a0.next, .lst 4 (a0.list_.map eDLease)]), (256, [iV 0, iV 0, .own 259 0 4 (([] : List DLease).map eDLease)]), (448, [iV a0.clock, iV a0.next, .lst 4 (a0.list_.map eDLease)])], []⟩ (fgk (by kernel_rfl)) (seq_ ?_))))))))))))
   obtain ⟨s7, e8, h0⟩ := bnd h0
   obtain ⟨s9, e10, h0⟩ := bnd h0
   obtain ⟨c11, h0⟩ := grd h0
   obtain ⟨c12, h0⟩ := grd h0
   refine draw_ (dtake tv (c_ (cp_ ⟨tv, tv⟩ rfl tv) (⟨tv, (dtake tv (c_ (cp_ ⟨tv, tv⟩ rfl (nl rfl)) (⟨tv, (dtake tv (mv_ rfl tv (⟨tv, (dtake tv (c_ (csliceL (e := eDLease) (y := s7) rfl rfl tv ⟨tv, tv⟩ rfl rfl e8) (⟨tv, (dtake tv (c_ (cp_ ⟨tv, tv⟩ rfl tv) (⟨tv, (dtake tv (c_ (cp_ ⟨tv, tv⟩ rfl (nl rfl)) (⟨tv, (dtake tv (mv_ rfl tv (⟨tv, (dtake tv (c_ (cp_ t3 rfl tv) (⟨tv, (dtake tv (c_ (csliceL (e := eDLease) (y := s9) rfl rfl tv ⟨tv, tv⟩ rfl rfl e10) (⟨tv, (dalt (mkS_ tv tv (dk0 ⟨[], ⟨⟨.inl tv, (again1 (csliceL (e := eDLease) (y := s9) rfl rfl tv ⟨tv, tv⟩ rfl rfl e10) rfl)⟩, ⟨.inl tv, (again1 (cp_ t3 rfl tv) rfl)⟩, ⟨.inl tv, (again1 (cmv (v := iV r1) rfl tv) rfl)⟩, ⟨.inl tv, (again1 (cp_ ⟨tv, tv⟩ rfl (nl rfl)) rfl)⟩, ⟨.inl tv, (again1 (cp_ ⟨tv, tv⟩ rfl tv) rfl)⟩, ⟨.inl tv, (again1 (csliceL (e := eDLease) (y := s7) rfl rfl tv ⟨tv, tv⟩ rfl rfl e8) rfl)⟩, ⟨.inl tv, (again1 (cmv (v := iV r1) rfl tv) rfl)⟩, ⟨.inl tv, (again1 (cp_ ⟨tv, tv⟩ rfl (nl rfl)) rfl)⟩, ⟨.inl tv, (again1 (cp_ ⟨tv, tv⟩ rfl tv) rfl)⟩, tv⟩, tv, (dalt (app_ (e := eDLease) (l0 := ([] : List DLease)) (l1 := s7) rfl rfl tv rfl (by decide) c11 (dkw ⟨[(2, .ptr 128 0), (4, .ptr 256 0), (6, iV r1), (7, .ptr 448 0), (28, .own 1472 0 4 ((([] : List DLease) ++ s7).map eDLease)), (29, .ptr 128 2), (30, .lst 4 (a0.list_.map eDLease)), (31, iV r1), (32, iV (IntKind.i64.wrap (r1 + 1))), (33, .lst 4 (s9.map eDLease))], [(128, [iV a0.clock, iV a0.next, .lst 4 (a0.list_.map eDLease)]), (256, [iV 0, iV 0, .own 259 0 4 (([] : List DLease).map eDLease)]), (448, [iV a0.clock, iV a0.next, .lst 4 (a0.list_.map eDLease)])], []⟩ (fgk (by kernel_rfl)) ⟨[], ⟨⟨.inl tv, (again1 (csliceL (e := eDLease) (y := s9) rfl rfl tv ⟨tv, tv⟩ rfl rfl e10) rfl)⟩, ⟨.inl tv, (again1 (cp_ t3 rfl tv) rfl)⟩, ⟨.inl tv, (again1 (cmv (v := iV r1) rfl tv) rfl)⟩, ⟨.inl tv, (again1 (cp_ ⟨tv, tv⟩ rfl (nl rfl)) rfl)⟩, ⟨.inl tv, (again1 (cp_ ⟨tv, tv⟩ rfl tv) rfl)⟩, tv⟩, tv, (dalt (app_ (e := eDLease) (l0 := ([] : List DLease) ++ s7) (l1 := s9) rfl rfl tv rfl (by decide) c12 (dk0 ⟨[], tv, tv, (dtake tv (c_ (cp_ ⟨tv, tv⟩ rfl tv) (⟨tv, (dalt (stp_ rfl rfl tv rfl rfl rfl (nl rfl) (dk0 ⟨[], tv, tv, (dfin (wk_ ⟨[(4, .ptr 256 0), (7, .ptr 448 0)], [(256, [iV 0, iV 0, .own 259 0 4 (([] : List DLease).map eDLease)]), (448, [iV a0.clock, iV a0.next, .own 1472 0 4 (((([] : List DLease) ++ s7) ++ s9).map eDLease)])], []⟩ (fgk (by kernel_rfl)) ?_))⟩)) dstop)⟩)))⟩)) dstop)⟩)) dstop)⟩)) dstop)⟩)))⟩)))⟩)))⟩)))⟩)))⟩)))⟩)))⟩)))⟩)))
   refine seq_ (reg_ (st (c_ (v := .agg [iV a0.clock, iV a0.next, .own 1472 0 4 (((([] : List DLease) ++ s7) ++ s9).map eDLease)]) (cp_ ⟨tv, tv⟩ rfl (nl rfl)) (st (stp_ rfl rfl tv rfl rfl rfl (nl rfl) (st (mvc_ tv (oe_ (wk_ ⟨[(4, .ptr 256 0), (5, iV 0)], [(256, [iV a0.clock, iV a0.next, .lst 4 (((([] : List DLease) ++ s7) ++ s9).map eDLease)])], []⟩ (fgzk [1472] (by kernel_rfl)) ?_)))))))))
   obtain rfl := Option.some.inj h0
   exact rt_ (ret_ rfl rfl rfl rfl rfl tv)

/- loop.example/g00149/spec.l09Without -/
def c146_r0 : List Ins := [⟨some 4, .nilS 2, none⟩]
def c146_r1 : List Ins := [⟨some 7, .mkS 2 [(iV 0), (.bool false)] 0 [], none⟩,
(iQ 5 (.mv (.t 7)))]
def c146_r2 : List Ins := [⟨some 6, .p (.mv (.c (iV 0))), none⟩]
def c146_r3 : List Ins := [(iQ 8 (.mv (.t 6))),
(iQ 9 (.mv (.t 0))),
(iQ 10 (.len (.t 9))),
(iQ 11 (.bin .lss (.t 8) (.t 10)))]
def c146_r4 : List Ins := [(iQ 14 (.mv (.t 0))),
(iQ 15 (.mv (.t 6))),
(iQ 16 (.idxA (.t 14) (.t 15) 2)),
(iQ 17 (.fieldA (.t 16) 0)),
(iQ 18 (.load (.t 17) 1 false)),
(iQ 19 (.mv (.t 1))),
(iQ 20 (.bin .neq (.t 18) (.t 19)))]
def c146_r5 : List Ins := [(iQ 21 (.mv (.t 5))),
(iQ 22 (.mv (.t 0))),
(iQ 23 (.mv (.t 6))),
(iQ 24 (.idxA (.t 22) (.t 23) 2)),
(iQ 25 (.load (.t 24) 2 true)),
⟨some 26, .mkS 2 [(iV 0), (.bool false)] 1 [(0, (.t 25))], none⟩,
⟨some 27, .app 2 16 (.t 21) (.t 26), none⟩,
(iQ 5 (.mv (.t 27)))]
def c146_r6 : List Ins := [(iQ 12 (.mv (.t 6))),
⟨some 13, .p (.bin .add (.t 12) (.c (iV 1))), none⟩,
(iQ 6 (.mv (.t 13)))]
def c146_l0 : IR := (.seq (.seq (.reg c146_r3) (.ite (.t 11) .skip (.exit 0))) (.seq (.block 1 (.seq (.reg c146_r4) (.ite (.t 20) (.reg c146_r5) .skip))) (.reg c146_r6)))
def c146_r7 : List Ins := [(iQ 28 (.mv (.t 5))),
(iQ 4 (.mv (.t 28)))]
def c146 : XFn := { np := 2, nt := 29, res := [.t 4], body := (.seq (.reg c146_r0) (.seq (.reg c146_r1) (.seq (.seq (.reg c146_r2) (.block 0 (.loop c146_l0))) (.seq (.reg c146_r7) .ret)))) }
def K146 (C : CRel) : Prop := ∀ (a0 : List DIntent) (a1 : Int) (r : (List DIntent)), g146 a0 a1 = some r → C 146 ⟨[.lst 2 (a0.map eDIntent), iV a1], []⟩ ⟨.own 0 0 2 (r.map eDIntent), [], []⟩
theorem F146 {C : CRel}  (a0 : List DIntent) (a1 : Int) (r : (List DIntent)) (h0 : g146 a0 a1 = some r) : FnOK C c146 ⟨[.lst 2 (a0.map eDIntent), iV a1], []⟩ ⟨.own 0 0 2 (r.map eDIntent), [], []⟩ := by
 refine fn_ (nl rfl) (seq_ (reg_ (st (nilS_ (oe_ (wk_ ⟨[(0, .lst 2 (a0.map eDIntent)), (1, iV a1)], [], []⟩ (fgk (by kernel_rfl)) (seq_ (reg_ (st (mkS_ tv tv (st (mv_ rfl tv (oe_ (wk_ ⟨[(0, .lst 2 (a0.map eDIntent)), (1, iV a1), (5, .own 448 0 2 (([] : List DIntent).map eDIntent))], [], []⟩ (fgk (by kernel_rfl)) (seq_ (seq_ (reg_ (st (mvc_ tv (oe_ (wk_ ⟨[(0, .lst 2 (a0.map eDIntent)), (1, iV a1), (5, .own 448 0 2 (([] : List DIntent).map eDIntent)), (6, iV 0)], [], []⟩ (fgk (by kernel_rfl)) (block_ ?_))))))))))))))))))))))
 obtain ⟨r37, e38, h0⟩ := bnd h0
 refine loop_ (R := (fun S => ∃ p21 : List DIntent, p21 = r37 ∧ S = ⟨[(5, .own 448 0 2 (p21.map eDIntent))], [], []⟩)) (g146_l0 a0 a1) (fun s S => match s with | (p9, p10) => S = ⟨[(0, .lst 2 (a0.map eDIntent)), (1, iV a1), (5, .own 448 0 2 (p9.map eDIntent)), (6, iV p10)], [], []⟩) e38 ⟨[(0, .lst 2 (a0.map eDIntent)), (1, iV a1), (5, .own 448 0 2 (([] : List DIntent).map eDIntent)), (6, iV 0)], [], []⟩ (fgk (by kernel_rfl)) rfl 0 (fun _ => rfl) ?_ ?_
 ·rintro S _ hfg ⟨p21, rfl, rfl⟩
  refine wk_ ⟨[(5, .own 448 0 2 (p21.map eDIntent))], [], []⟩ (fglk hfg (by kernel_rfl)) (seq_ (reg_ (st (mv_ rfl tv (st (mv_ rfl tv (oe_ (wk_ ⟨[(4, .own 448 0 2 (p21.map eDIntent))], [], []⟩ (fgk (by kernel_rfl)) ?_))))))))
  obtain rfl := Option.some.inj h0
  exact rt_ (ret_ rfl rfl rfl rfl rfl tv)
 ·rintro ⟨p9, p10⟩ o1 _ K1 rfl h1 hx1 hK1 hE1 hR1
  refine seq_ (seq_ (reg_ (st (mv_ rfl tv (st (mv_ rfl tv (st (c_ (clenL (e := eDIntent) (l0 := a0) rfl rfl tv) (st (c_ (cp_ t3 rfl tv) (oe_ (wk_ ⟨[(0, .lst 2 (a0.map eDIntent)), (1, iV a1), (5, .own 448 0 2 (p9.map eDIntent)), (6, iV p10), (11, .bool (decide (p10 < (a0.length : Int))))], [], []⟩ (fgk (by kernel_rfl)) (ite_ (cb := (decide (p10 < (a0.length : Int)))) rfl (fun c22 => ?_) (fun c22 => ?_))))))))))))))
  ·replace h1 := ip c22 h1
   refine sk_ (wk_ ⟨[(0, .lst 2 (a0.map eDIntent)), (1, iV a1), (5, .own 448 0 2 (p9.map eDIntent)), (6, iV p10)], [], []⟩ (fgk (by kernel_rfl)) (seq_ (blockJ (fun S => ∃ p29 : List DIntent, S = ⟨[(0, .lst 2 (a0.map eDIntent)), (1, iV a1), (5, .own 448 0 2 (p29.map eDIntent)), (6, iV p10)], [], []⟩ ∧ g146_j0 p10 p29 = some o1) ?_ (fun J30 => ?_))))
   ·rintro _ ⟨p29, rfl, h1⟩
    refine wk_ ⟨[(0, .lst 2 (a0.map eDIntent)), (1, iV a1), (5, .own 448 0 2 (p29.map eDIntent)), (6, iV p10)], [], []⟩ (fgk (by kernel_rfl)) (reg_ (st (mv_ rfl tv (st (c_ (cp_ t3 rfl tv) (st (mv_ rfl tv (oe_ ?_))))))))
    obtain rfl := Option.some.inj h1
    exact hK1 _ rfl _ ⟨[(0, .lst 2 (a0.map eDIntent)), (1, iV a1), (5, .own 448 0 2 (p29.map eDIntent)), (6, iV (IntKind.i64.wrap (p10 + 1)))], [], []⟩ (fgk (by kernel_rfl)) rfl
   ·refine seq_ ?_
    refine reg_ (st (mv_ rfl tv (st (mv_ rfl tv ?_))))
    obtain ⟨y31, e32, h1⟩ := bnd h1
    refine st (c_ (cidxL (e := eDIntent) (y := y31) rfl rfl tv rfl rfl tv e32) (st (c_ (cp_ ⟨tv, tv⟩ rfl (nl rfl)) (st (c_ (cp_ ⟨tv, tv⟩ rfl (nl rfl)) (st (mv_ rfl tv (st (c_ (cp_ t3 rfl tv) (oe_ (wk_ ⟨[(0, .lst 2 (a0.map eDIntent)), (1, iV a1), (5, .own 448 0 2 (p9.map eDIntent)), (6, iV p10), (20, .bool (y31.lease != a1))], [], []⟩ (fgk (by kernel_rfl)) (ite_ (cb := (y31.lease != a1)) rfl (fun c33 => ?_) (fun c33 => ?_)))))))))))))
    ·replace h1 := ip c33 h1
     refine reg_ (st (mv_ rfl tv (st (mv_ rfl tv (st (mv_ rfl tv ?_))))))
     obtain ⟨y34, e35, h1⟩ := bnd h1
     refine st (c_ (cidxL (e := eDIntent) (y := y34) rfl rfl tv rfl rfl tv e35) (st (c_ (v := .agg (eDIntent y34)) (cp_ ⟨tv, tv⟩ rfl (nl rfl)) (st (mkS_ ⟨tv, tv⟩ ⟨⟨nl rfl, rfl, rfl⟩, tv⟩ ?_)))))
     obtain ⟨c36, h1⟩ := grd h1
     refine st (app_ (e := eDIntent) (l0 := p9) (l1 := ([y34] : List DIntent)) rfl rfl tv rfl (by decide) c36 (st (mv_ rfl tv (oe_ (bn_ ?_)))))
     exact J30 _ ⟨[(0, .lst 2 (a0.map eDIntent)), (1, iV a1), (5, .own 448 0 2 ((p9 ++ ([y34] : List DIntent)).map eDIntent)), (6, iV p10)], [], []⟩ (fgk (by kernel_rfl)) ⟨_, rfl, h1⟩
    ·replace h1 := inb c33 h1
     refine sk_ (bn_ ?_)
     exact J30 _ ⟨[(0, .lst 2 (a0.map eDIntent)), (1, iV a1), (5, .own 448 0 2 (p9.map eDIntent)), (6, iV p10)], [], []⟩ (fgk (by kernel_rfl)) ⟨_, rfl, h1⟩
  ·replace h1 := inb c22 h1
   obtain rfl := Option.some.inj h1
   obtain rfl := hx1 _ rfl
   refine exQ rfl ?_
   exact hE1 _ ⟨[(5, .own 448 0 2 (p9.map eDIntent))], [], []⟩ (fgk (by kernel_rfl)) ⟨_, rfl, rfl⟩
end Go.Ev
