/- The walks of functions: the code comes to the answers that QgD tells. Written by a program of ours. -/
import Derived.Test.YtdmclbbhhcpjfaaQgW0
set_option linter.all false
set_option maxHeartbeats 4000000
set_option linter.unusedVariables false
set_option maxRecDepth 100000
namespace Go.Ev

/- loop.example/g00149/spec.l09Lost -/
def c93_r0 : List Ins := [⟨some 1, .box (.t 0), none⟩,
⟨some 2, .p (.mv (.c (iV 0))), none⟩]
def c93_r1 : List Ins := [⟨some 3, .p (.mv (.c (iV 0))), none⟩]
def c93_r2 : List Ins := [(iQ 4 (.mv (.t 3))),
(iQ 5 (.fieldA (.t 1) 4)),
(iQ 6 (.load (.t 5) 1 false)),
(iQ 7 (.len (.t 6))),
(iQ 8 (.bin .lss (.t 4) (.t 7)))]
def c93_r3 : DP := (.take (iQ 11 (.fieldA (.t 1) 0))
(.take (iQ 12 (.load (.t 11) 3 true))
(.take (iQ 13 (.fieldA (.t 1) 4))
(.take (iQ 14 (.load (.t 13) 1 false))
(.take (iQ 15 (.mv (.t 3)))
(.take (iQ 16 (.idxA (.t 14) (.t 15) 1))
(.take (iQ 17 (.load (.t 16) 1 false))
(.alt [] ⟨some 18, .call 92 [(.t 12), (.t 17)], none⟩
(.take ⟨some 19, .p (.bin .lss (.t 18) (.c (iV 0))), none⟩
(.take (iQ 20 (.mv (.t 19)))
(.take ⟨some 21, .p (.load (.t 1) 6 true), some (20, true)⟩
(.take ⟨some 22, .p (.fieldA (.t 1) 4), some (20, true)⟩
(.take ⟨some 23, .p (.load (.t 22) 1 false), some (20, true)⟩
(.take ⟨some 24, .p (.mv (.t 3)), some (20, true)⟩
(.take ⟨some 25, .p (.idxA (.t 23) (.t 24) 1), some (20, true)⟩
(.take ⟨some 26, .p (.load (.t 25) 1 false), some (20, true)⟩
(.alt [] ⟨some 27, .call 124 [(.t 21), (.t 26)], some (20, true)⟩
(.take ⟨some 28, .p (.bin .lss (.t 27) (.c (iV 0))), some (20, true)⟩
(.take ⟨some 29, .pick (.t 20) (.t 28) (.c (.bool false)), none⟩
.fin))
.stop)))))))))
.stop))))))))
def c93_r4 : List Ins := [(iQ 30 (.fieldA (.t 1) 4)),
(iQ 31 (.load (.t 30) 1 false)),
(iQ 32 (.mv (.t 3))),
(iQ 33 (.idxA (.t 31) (.t 32) 1)),
(iQ 34 (.load (.t 33) 1 false)),
(iQ 2 (.mv (.t 34)))]
def c93_r5 : List Ins := [(iQ 9 (.mv (.t 3))),
⟨some 10, .p (.bin .add (.t 9) (.c (iV 1))), none⟩,
(iQ 3 (.mv (.t 10)))]
def c93_l0 : IR := (.seq (.seq (.reg c93_r2) (.ite (.t 8) .skip (.exit 0))) (.seq (.block 1 (.seq (.draw c93_r3) (.ite (.t 29) (.seq (.reg c93_r4) .ret) .skip))) (.reg c93_r5)))
def c93_r6 : List Ins := [⟨some 2, .p (.mv (.c (iV 0))), none⟩]
def c93 : XFn := { np := 1, nt := 35, res := [.t 2], body := (.seq (.reg c93_r0) (.seq (.seq (.reg c93_r1) (.block 0 (.loop c93_l0))) (.seq (.reg c93_r6) .ret))) }
def K93 (C : CRel) : Prop := ∀ (a0 : DVault) (r : Int), g93 a0 = some r → C 93 ⟨[.agg (eDVault a0)], []⟩ ⟨iV r, [], []⟩
theorem F93 {C : CRel} (H92 : K92 C) (H124 : K124 C) (a0 : DVault) (r : Int) (h0 : g93 a0 = some r) : FnOK C c93 ⟨[.agg (eDVault a0)], []⟩ ⟨iV r, [], []⟩ := by
 refine fn_ (nl rfl) (seq_ (reg_ (st (box_ rfl tv rfl (st (mvc_ tv (oe_ (wk_ ⟨[(1, .ptr 64 0)], [(64, [iV a0.table.clock, iV a0.table.next, .lst 4 (a0.table.list_.map eDLease), .lst 2 (a0.intents.map eDIntent), .lst 1 (a0.accounts.map eI), .bool a0.sealed])], []⟩ (fgk (by kernel_rfl)) (seq_ (seq_ (reg_ (st (mvc_ tv (oe_ (wk_ ⟨[(1, .ptr 64 0), (3, iV 0)], [(64, [iV a0.table.clock, iV a0.table.next, .lst 4 (a0.table.list_.map eDLease), .lst 2 (a0.intents.map eDIntent), .lst 1 (a0.accounts.map eI), .bool a0.sealed])], []⟩ (fgk (by kernel_rfl)) (block_ ?_))))))))))))))))
 obtain ⟨r39, e40, h0⟩ := bnd h0
 refine loop_ (R := (fun S => .inl () = r39 ∧ S = ⟨[], [], []⟩)) (g93_l0 a0) (fun s S => match s with | p13 => S = ⟨[(1, .ptr 64 0), (3, iV p13)], [(64, [iV a0.table.clock, iV a0.table.next, .lst 4 (a0.table.list_.map eDLease), .lst 2 (a0.intents.map eDIntent), .lst 1 (a0.accounts.map eI), .bool a0.sealed])], []⟩) e40 ⟨[(1, .ptr 64 0), (3, iV 0)], [(64, [iV a0.table.clock, iV a0.table.next, .lst 4 (a0.table.list_.map eDLease), .lst 2 (a0.intents.map eDIntent), .lst 1 (a0.accounts.map eI), .bool a0.sealed])], []⟩ (fgk (by kernel_rfl)) rfl 0 (fun _ => rfl) ?_ ?_
 ·rintro S _ hfg ⟨rfl, rfl⟩
  refine wk_ ⟨[], [], []⟩ (fglk hfg (by kernel_rfl)) (seq_ (reg_ (st (mvc_ tv (oe_ (wk_ ⟨[(2, iV 0)], [], []⟩ (fgk (by kernel_rfl)) ?_))))))
  obtain rfl := Option.some.inj h0
  exact rt_ (ret_ rfl rfl rfl rfl rfl tv)
 ·rintro p13 o1 _ K1 rfl h1 hx1 hK1 hE1 hR1
  refine seq_ (seq_ (reg_ (st (mv_ rfl tv (st (c_ (cp_ ⟨tv, tv⟩ rfl tv) (st (c_ (cp_ ⟨tv, tv⟩ rfl (nl rfl)) (st (c_ (clenL (e := eI) (l0 := a0.accounts) rfl rfl tv) (st (c_ (cp_ t3 rfl tv) (oe_ (wk_ ⟨[(1, .ptr 64 0), (3, iV p13), (8, .bool (decide (p13 < (a0.accounts.length : Int))))], [(64, [iV a0.table.clock, iV a0.table.next, .lst 4 (a0.table.list_.map eDLease), .lst 2 (a0.intents.map eDIntent), .lst 1 (a0.accounts.map eI), .bool a0.sealed])], []⟩ (fgk (by kernel_rfl)) (ite_ (cb := (decide (p13 < (a0.accounts.length : Int)))) rfl (fun c27 => ?_) (fun c27 => ?_))))))))))))))))
  ·replace h1 := ip c27 h1
   refine sk_ (wk_ ⟨[(1, .ptr 64 0), (3, iV p13)], [(64, [iV a0.table.clock, iV a0.table.next, .lst 4 (a0.table.list_.map eDLease), .lst 2 (a0.intents.map eDIntent), .lst 1 (a0.accounts.map eI), .bool a0.sealed])], []⟩ (fgk (by kernel_rfl)) (seq_ (block_ (seq_ ?_))))
   obtain ⟨y28, e29, h1⟩ := bnd h1
   obtain ⟨r30, e31, h1⟩ := bnd h1
   obtain ⟨y32, e33, h1⟩ := bnd h1
   obtain ⟨r34, e35, h1⟩ := bnd h1
   refine draw_ (dtake tv (c_ (cp_ ⟨tv, tv⟩ rfl tv) (⟨tv, (dtake tv (c_ (v := .agg [iV a0.table.clock, iV a0.table.next, .lst 4 (a0.table.list_.map eDLease)]) (cp_ ⟨tv, tv⟩ rfl (nl rfl)) (⟨tv, (dtake tv (c_ (cp_ ⟨tv, tv⟩ rfl tv) (⟨tv, (dtake tv (c_ (cp_ ⟨tv, tv⟩ rfl (nl rfl)) (⟨tv, (dtake tv (mv_ rfl tv (⟨tv, (dtake tv (c_ (cidxL (e := eI) (y := y28) rfl rfl tv rfl rfl tv e29) (⟨tv, (dtake tv (c_ (cp_ ⟨tv, tv⟩ rfl (nl rfl)) (⟨tv, (dalt (call0_ (r := iV r30) false (H92 a0.table y28 r30 e31) ⟨tv, tv, tv⟩ rfl rfl (fun _ => rfl) (dkw ⟨[(1, .ptr 64 0), (3, iV p13), (18, iV r30)], [(64, [iV a0.table.clock, iV a0.table.next, .lst 4 (a0.table.list_.map eDLease), .lst 2 (a0.intents.map eDIntent), .lst 1 (a0.accounts.map eI), .bool a0.sealed])], []⟩ (fgk (by kernel_rfl)) ⟨[], tv, tv, (dtake tv (c_ (cp_ t3 rfl tv) (⟨tv, (dtake tv (mv_ rfl tv (⟨tv, (dtake tv (pg_ (u := .agg (eDVault a0)) rfl (fun hg => (cp_ ⟨tv, tv⟩ rfl (nl rfl))) (⟨tv, (dtake tv (pg_ (u := .ptr 64 4) rfl (fun hg => (cp_ ⟨tv, tv⟩ rfl tv)) (⟨tv, (dtake tv (pg_ (u := .lst 1 (a0.accounts.map eI)) rfl (fun hg => (cp_ ⟨(fun _ => hg), tv⟩ rfl (nl rfl))) (⟨tv, (dtake tv (pg_ (u := iV p13) rfl (fun hg => (cmv (v := iV p13) rfl tv)) (⟨tv, (dtake tv (pg_ (u := .iptr [iV y32]) rfl (fun hg => (cidxL (e := eI) (y := y32) rfl rfl (fun _ => hg) rfl rfl (fun _ => hg) (ip hg e33))) (⟨tv, ?_⟩)))⟩)))⟩)))⟩)))⟩)))⟩)))⟩)))⟩)) dstop)⟩)))⟩)))⟩)))⟩)))⟩)))⟩)))⟩)))
   refine dtake tv (pg_ (u := iV y32) rfl (fun hg => (cp_ ⟨(fun _ => hg), tv⟩ rfl (nl rfl))) (⟨tv, (dalt (callg_ (r := iV r34) rfl false (fun hg => H124 a0 y32 r34 (ip hg e35)) ⟨(fun hg => hg), (fun hg => hg), tv⟩ (fun _ => rfl) (fun _ => rfl) (fun _ => rfl) (fun h => nomatch h) (dkw ⟨[(1, .ptr 64 0), (3, iV p13), (20, .bool (decide (r30 < 0))), (27, .may ((decide (r30 < 0)) == true) (iV r34))], [(64, [iV a0.table.clock, iV a0.table.next, .lst 4 (a0.table.list_.map eDLease), .lst 2 (a0.intents.map eDIntent), .lst 1 (a0.accounts.map eI), .bool a0.sealed])], []⟩ (fgk (by kernel_rfl)) ⟨[], tv, tv, (dtake tv (pg_ (u := .bool (decide (r34 < 0))) rfl (fun hg => (cp_ ⟨(fun _ => hg), tv, tv⟩ rfl tv)) (⟨tv, (dtake tv (pick_ rfl rfl rfl (fun h => eqt h) tv rfl (⟨tv, (dfin (wk_ ⟨[(1, .ptr 64 0), (3, iV p13), (29, .bool (bif (decide (r30 < 0)) then (decide (r34 < 0)) else false))], [(64, [iV a0.table.clock, iV a0.table.next, .lst 4 (a0.table.list_.map eDLease), .lst 2 (a0.intents.map eDIntent), .lst 1 (a0.accounts.map eI), .bool a0.sealed])], []⟩ (fgk (by kernel_rfl)) (ite_ (cb := (bif (decide (r30 < 0)) then (decide (r34 < 0)) else false)) rfl (fun c36 => ?_) (fun c36 => ?_))))⟩)))⟩)))⟩)) dstop)⟩))
   ·replace h1 := ip c36 h1
    refine seq_ (reg_ (st (c_ (cp_ ⟨tv, tv⟩ rfl tv) (st (c_ (cp_ ⟨tv, tv⟩ rfl (nl rfl)) (st (mv_ rfl tv ?_)))))))
    obtain ⟨y37, e38, h1⟩ := bnd h1
    refine st (c_ (cidxL (e := eI) (y := y37) rfl rfl tv rfl rfl tv e38) (st (c_ (cp_ ⟨tv, tv⟩ rfl (nl rfl)) (st (mv_ rfl tv (oe_ (wk_ ⟨[(2, iV y37)], [], []⟩ (fgk (by kernel_rfl)) ?_)))))))
    obtain rfl := Option.some.inj h1
    obtain rfl := hx1 _ rfl
    obtain rfl := Option.some.inj h0
    exact rt_ (hR1 _ (ret_ rfl rfl rfl rfl rfl tv))
   ·replace h1 := inb c36 h1
    refine sk_ (bn_ (wk_ ⟨[(1, .ptr 64 0), (3, iV p13)], [(64, [iV a0.table.clock, iV a0.table.next, .lst 4 (a0.table.list_.map eDLease), .lst 2 (a0.intents.map eDIntent), .lst 1 (a0.accounts.map eI), .bool a0.sealed])], []⟩ (fgk (by kernel_rfl)) (reg_ (st (mv_ rfl tv (st (c_ (cp_ t3 rfl tv) (st (mv_ rfl tv (oe_ ?_))))))))))
    obtain rfl := Option.some.inj h1
    exact hK1 _ rfl _ ⟨[(1, .ptr 64 0), (3, iV (IntKind.i64.wrap (p13 + 1)))], [(64, [iV a0.table.clock, iV a0.table.next, .lst 4 (a0.table.list_.map eDLease), .lst 2 (a0.intents.map eDIntent), .lst 1 (a0.accounts.map eI), .bool a0.sealed])], []⟩ (fgk (by kernel_rfl)) rfl
  ·replace h1 := inb c27 h1
   obtain rfl := Option.some.inj h1
   obtain rfl := hx1 _ rfl
   refine exQ rfl ?_
   exact hE1 _ ⟨[], [], []⟩ (fgk (by kernel_rfl)) ⟨rfl, rfl⟩

/- loop.example/g00149/spec.VaultOK -/
def c46_r0 : List Ins := [⟨some 1, .box (.t 0), none⟩,
⟨some 2, .p (.mv (.c (.bool false))), none⟩]
def c46_r1 : List Ins := [(iQ 5 (.fieldA (.t 1) 0)),
(iQ 6 (.load (.t 5) 3 true)),
⟨some 7, .call 18 [(.t 6)], none⟩,
(iQ 8 (.un .not (.t 7))),
(iQ 9 (.mv (.t 8))),
⟨some 10, .p (.fieldA (.t 1) 3), some (9, false)⟩,
⟨some 11, .p (.load (.t 10) 1 false), some (9, false)⟩,
⟨some 12, .p (.len (.t 11)), some (9, false)⟩,
⟨some 13, .p (.bin .gtr (.t 12) (.c (iV 40))), some (9, false)⟩,
⟨some 14, .pick (.t 9) (.c (.bool true)) (.t 13), none⟩,
(iQ 15 (.mv (.t 14))),
⟨some 16, .p (.fieldA (.t 1) 4), some (15, false)⟩,
⟨some 17, .p (.load (.t 16) 1 false), some (15, false)⟩,
⟨some 18, .p (.len (.t 17)), some (15, false)⟩,
⟨some 19, .p (.bin .gtr (.t 18) (.c (iV 80))), some (15, false)⟩,
⟨some 20, .pick (.t 15) (.c (.bool true)) (.t 19), none⟩,
(iQ 21 (.mv (.t 20))),
⟨some 22, .p (.fieldA (.t 1) 4), some (21, false)⟩,
⟨some 23, .p (.load (.t 22) 1 false), some (21, false)⟩,
⟨some 24, .p (.fieldA (.t 1) 0), some (21, false)⟩,
⟨some 25, .p (.fieldA (.t 24) 1), some (21, false)⟩,
⟨some 26, .p (.load (.t 25) 1 false), some (21, false)⟩,
⟨some 27, .call 85 [(.t 23), (.t 26)], some (21, false)⟩,
⟨some 28, .p (.un .not (.t 27)), some (21, false)⟩,
⟨some 29, .pick (.t 21) (.c (.bool true)) (.t 28), none⟩]
def c46_r2 : List Ins := [⟨some 2, .p (.mv (.c (.bool false))), none⟩]
def c46_r3 : List Ins := [⟨some 3, .p (.mv (.c (iV 0))), none⟩]
def c46_r4 : List Ins := [(iQ 30 (.mv (.t 3))),
(iQ 31 (.fieldA (.t 1) 3)),
(iQ 32 (.load (.t 31) 1 false)),
(iQ 33 (.len (.t 32))),
(iQ 34 (.bin .lss (.t 30) (.t 33)))]
def c46_r5 : List Ins := [(iQ 37 (.fieldA (.t 1) 3)),
(iQ 38 (.load (.t 37) 1 false)),
(iQ 39 (.mv (.t 3))),
(iQ 40 (.idxA (.t 38) (.t 39) 2)),
(iQ 41 (.fieldA (.t 40) 0)),
(iQ 42 (.load (.t 41) 1 false)),
(iQ 4 (.mv (.t 42)))]
def c46_r6 : List Ins := [(iQ 43 (.mv (.t 4))),
(iQ 44 (.fieldA (.t 1) 0)),
(iQ 45 (.fieldA (.t 44) 1)),
(iQ 46 (.load (.t 45) 1 false)),
⟨some 47, .p (.bin .sub (.t 46) (.c (iV 1))), none⟩,
⟨some 48, .call 56 [(.t 43), (.c (iV 1)), (.t 47)], none⟩,
(iQ 49 (.un .not (.t 48))),
(iQ 50 (.mv (.t 49))),
⟨some 51, .p (.mv (.t 3)), some (50, false)⟩,
⟨some 52, .p (.bin .gtr (.t 51) (.c (iV 0))), some (50, false)⟩,
⟨some 53, .p (.mv (.t 52)), some (50, false)⟩,
⟨some 54, .p (.fieldA (.t 1) 3), some (53, true)⟩,
⟨some 55, .p (.load (.t 54) 1 false), some (53, true)⟩,
⟨some 56, .p (.mv (.t 3)), some (53, true)⟩,
⟨some 57, .p (.bin .sub (.t 56) (.c (iV 1))), some (53, true)⟩,
⟨some 58, .p (.idxA (.t 55) (.t 57) 2), some (53, true)⟩,
⟨some 59, .p (.fieldA (.t 58) 0), some (53, true)⟩,
⟨some 60, .p (.load (.t 59) 1 false), some (53, true)⟩,
⟨some 61, .p (.mv (.t 4)), some (53, true)⟩,
⟨some 62, .p (.bin .geq (.t 60) (.t 61)), some (53, true)⟩,
⟨some 63, .pick (.t 53) (.t 62) (.c (.bool false)), some (50, false)⟩,
⟨some 64, .pick (.t 50) (.c (.bool true)) (.t 63), none⟩,
(iQ 65 (.mv (.t 64))),
⟨some 66, .p (.fieldA (.t 1) 0), some (65, false)⟩,
⟨some 67, .p (.load (.t 66) 3 true), some (65, false)⟩,
⟨some 68, .p (.mv (.t 4)), some (65, false)⟩,
⟨some 69, .call 92 [(.t 67), (.t 68)], some (65, false)⟩,
⟨some 70, .p (.bin .geq (.t 69) (.c (iV 0))), some (65, false)⟩,
⟨some 71, .pick (.t 65) (.c (.bool true)) (.t 70), none⟩]
def c46_r7 : List Ins := [⟨some 2, .p (.mv (.c (.bool false))), none⟩]
def c46_r8 : List Ins := [(iQ 35 (.mv (.t 3))),
⟨some 36, .p (.bin .add (.t 35) (.c (iV 1))), none⟩,
(iQ 3 (.mv (.t 36)))]
def c46_l0 : IR := (.seq (.seq (.reg c46_r4) (.ite (.t 34) .skip (.exit 0))) (.seq (.block 1 (.seq (.reg c46_r5) (.seq (.reg c46_r6) (.ite (.t 71) (.seq (.reg c46_r7) .ret) .skip)))) (.reg c46_r8)))
def c46_r9 : List Ins := [(iQ 72 (.load (.t 1) 6 true)),
⟨some 73, .call 93 [(.t 72)], none⟩,
⟨some 74, .p (.bin .eql (.t 73) (.c (iV 0))), none⟩,
(iQ 2 (.mv (.t 74)))]
def c46 : XFn := { np := 1, nt := 75, res := [.t 2], body := (.seq (.reg c46_r0) (.seq (.seq (.reg c46_r1) (.ite (.t 29) (.seq (.reg c46_r2) .ret) .skip)) (.seq (.seq (.reg c46_r3) (.block 0 (.loop c46_l0))) (.seq (.reg c46_r9) .ret)))) }
def K46 (C : CRel) : Prop := ∀ (a0 : DVault) (r : Bool), g46 a0 = some r → C 46 ⟨[.agg (eDVault a0)], []⟩ ⟨.bool r, [], []⟩
theorem F46 {C : CRel} (H18 : K18 C) (H56 : K56 C) (H85 : K85 C) (H92 : K92 C) (H93 : K93 C) (a0 : DVault) (r : Bool) (h0 : g46 a0 = some r) : FnOK C c46 ⟨[.agg (eDVault a0)], []⟩ ⟨.bool r, [], []⟩ := by
 refine fn_ (nl rfl) (seq_ (reg_ (st (box_ rfl tv rfl (st (mvc_ tv (oe_ (wk_ ⟨[(1, .ptr 64 0)], [(64, [iV a0.table.clock, iV a0.table.next, .lst 4 (a0.table.list_.map eDLease), .lst 2 (a0.intents.map eDIntent), .lst 1 (a0.accounts.map eI), .bool a0.sealed])], []⟩ (fgk (by kernel_rfl)) (seq_ (seq_ (reg_ (st (c_ (cp_ ⟨tv, tv⟩ rfl tv) (st (c_ (v := .agg [iV a0.table.clock, iV a0.table.next, .lst 4 (a0.table.list_.map eDLease)]) (cp_ ⟨tv, tv⟩ rfl (nl rfl)) ?_)))))))))))))))
 obtain ⟨r1, e2, h0⟩ := bnd h0
 refine st (call0_ (r := .bool r1) false (H18 a0.table r1 e2) ⟨tv, tv⟩ rfl rfl (fun _ => rfl) (st (c_ (cp_ ⟨tv, tv⟩ rfl tv) (st (mv_ rfl tv (st (pg_ (u := .ptr 64 3) rfl (fun hg => (cp_ ⟨tv, tv⟩ rfl tv)) (st (pg_ (u := .lst 2 (a0.intents.map eDIntent)) rfl (fun hg => (cp_ ⟨(fun _ => hg), tv⟩ rfl (nl rfl))) (st (pg_ (u := iV (a0.intents.length : Int)) rfl (fun hg => (clenL (e := eDIntent) (l0 := a0.intents) rfl rfl (fun _ => hg))) (st (pg_ (u := .bool (decide ((a0.intents.length : Int) > 40))) rfl (fun hg => (cp_ ⟨(fun _ => hg), tv, tv⟩ rfl tv)) (st (pick_ rfl rfl rfl tv (fun h => eqf h) rfl (st (mv_ rfl tv (st (pg_ (u := .ptr 64 4) rfl (fun hg => (cp_ ⟨tv, tv⟩ rfl tv)) (sw ⟨[(1, .ptr 64 0), (15, .bool (bif (!r1) then true else (decide ((a0.intents.length : Int) > 40)))), (16, .may ((bif (!r1) then true else (decide ((a0.intents.length : Int) > 40))) == false) (.ptr 64 4))], [(64, [iV a0.table.clock, iV a0.table.next, .lst 4 (a0.table.list_.map eDLease), .lst 2 (a0.intents.map eDIntent), .lst 1 (a0.accounts.map eI), .bool a0.sealed])], []⟩ (fgk (by kernel_rfl)) (pg_ (u := .lst 1 (a0.accounts.map eI)) rfl (fun hg => (cp_ ⟨(fun _ => hg), tv⟩ rfl (nl rfl))) (st (pg_ (u := iV (a0.accounts.length : Int)) rfl (fun hg => (clenL (e := eI) (l0 := a0.accounts) rfl rfl (fun _ => hg))) (st (pg_ (u := .bool (decide ((a0.accounts.length : Int) > 80))) rfl (fun hg => (cp_ ⟨(fun _ => hg), tv, tv⟩ rfl tv)) (st (pick_ rfl rfl rfl tv (fun h => eqf h) rfl (st (mv_ rfl tv (st (pg_ (u := .ptr 64 4) rfl (fun hg => (cp_ ⟨tv, tv⟩ rfl tv)) (st (pg_ (u := .lst 1 (a0.accounts.map eI)) rfl (fun hg => (cp_ ⟨(fun _ => hg), tv⟩ rfl (nl rfl))) (st (pg_ (u := .ptr 64 0) rfl (fun hg => (cp_ ⟨tv, tv⟩ rfl tv)) (st (pg_ (u := .ptr 64 1) rfl (fun hg => (cp_ ⟨(fun _ => hg), tv⟩ rfl tv)) (st (pg_ (u := iV a0.table.next) rfl (fun hg => (cp_ ⟨(fun _ => hg), tv⟩ rfl (nl rfl))) ?_)))))))))))))))))))))))))))))))))))))))
 obtain ⟨r3, e4, h0⟩ := bnd h0
 refine sw ⟨[(1, .ptr 64 0), (21, .bool (bif (bif (!r1) then true else (decide ((a0.intents.length : Int) > 40))) then true else (decide ((a0.accounts.length : Int) > 80)))), (23, .may ((bif (bif (!r1) then true else (decide ((a0.intents.length : Int) > 40))) then true else (decide ((a0.accounts.length : Int) > 80))) == false) (.lst 1 (a0.accounts.map eI))), (26, .may ((bif (bif (!r1) then true else (decide ((a0.intents.length : Int) > 40))) then true else (decide ((a0.accounts.length : Int) > 80))) == false) (iV a0.table.next))], [(64, [iV a0.table.clock, iV a0.table.next, .lst 4 (a0.table.list_.map eDLease), .lst 2 (a0.intents.map eDIntent), .lst 1 (a0.accounts.map eI), .bool a0.sealed])], []⟩ (fgk (by kernel_rfl)) (callg_ (r := .bool r3) rfl false (fun hg => H85 a0.accounts a0.table.next r3 (ip hg e4)) ⟨(fun hg => hg), (fun hg => hg), tv⟩ (fun _ => rfl) (fun _ => rfl) (fun _ => rfl) (fun h => nomatch h) (st (pg_ (u := .bool (!r3)) rfl (fun hg => (cp_ ⟨(fun _ => hg), tv⟩ rfl tv)) (st (pick_ rfl rfl rfl tv (fun h => eqf h) rfl (oe_ ?_))))))
 obtain ⟨v5, e6, h0⟩ := bl h0
 refine wk_ ⟨[(1, .ptr 64 0), (29, .bool v5)], [(64, [iV a0.table.clock, iV a0.table.next, .lst 4 (a0.table.list_.map eDLease), .lst 2 (a0.intents.map eDIntent), .lst 1 (a0.accounts.map eI), .bool a0.sealed])], []⟩ (fgk (by subst e6; kernel_rfl)) (ite_ (cb := v5) rfl (fun c7 => ?_) (fun c7 => ?_))
 ·replace h0 := ip c7 h0
  refine seq_ (reg_ (st (mvc_ tv (oe_ (wk_ ⟨[(2, .bool false)], [], []⟩ (fgk (by kernel_rfl)) ?_)))))
  obtain rfl := Option.some.inj h0
  exact rt_ (ret_ rfl rfl rfl rfl rfl tv)
 ·replace h0 := inb c7 h0
  refine sk_ (wk_ ⟨[(1, .ptr 64 0)], [(64, [iV a0.table.clock, iV a0.table.next, .lst 4 (a0.table.list_.map eDLease), .lst 2 (a0.intents.map eDIntent), .lst 1 (a0.accounts.map eI), .bool a0.sealed])], []⟩ (fgk (by kernel_rfl)) (seq_ (seq_ (reg_ (st (mvc_ tv (oe_ (wk_ ⟨[(1, .ptr 64 0), (3, iV 0)], [(64, [iV a0.table.clock, iV a0.table.next, .lst 4 (a0.table.list_.map eDLease), .lst 2 (a0.intents.map eDIntent), .lst 1 (a0.accounts.map eI), .bool a0.sealed])], []⟩ (fgk (by kernel_rfl)) (block_ ?_)))))))))
  obtain ⟨r46, e47, h0⟩ := bnd h0
  refine loop_ (R := (fun S => .inl () = r46 ∧ S = ⟨[(1, .ptr 64 0)], [(64, [iV a0.table.clock, iV a0.table.next, .lst 4 (a0.table.list_.map eDLease), .lst 2 (a0.intents.map eDIntent), .lst 1 (a0.accounts.map eI), .bool a0.sealed])], []⟩)) (g46_l0 a0) (fun s S => match s with | p20 => S = ⟨[(1, .ptr 64 0), (3, iV p20)], [(64, [iV a0.table.clock, iV a0.table.next, .lst 4 (a0.table.list_.map eDLease), .lst 2 (a0.intents.map eDIntent), .lst 1 (a0.accounts.map eI), .bool a0.sealed])], []⟩) e47 ⟨[(1, .ptr 64 0), (3, iV 0)], [(64, [iV a0.table.clock, iV a0.table.next, .lst 4 (a0.table.list_.map eDLease), .lst 2 (a0.intents.map eDIntent), .lst 1 (a0.accounts.map eI), .bool a0.sealed])], []⟩ (fgk (by kernel_rfl)) rfl 0 (fun _ => rfl) ?_ ?_
  ·rintro S _ hfg ⟨rfl, rfl⟩
   refine wk_ ⟨[(1, .ptr 64 0)], [(64, [iV a0.table.clock, iV a0.table.next, .lst 4 (a0.table.list_.map eDLease), .lst 2 (a0.intents.map eDIntent), .lst 1 (a0.accounts.map eI), .bool a0.sealed])], []⟩ (fglk hfg (by kernel_rfl)) (seq_ (reg_ (st (c_ (v := .agg (eDVault a0)) (cp_ ⟨tv, tv⟩ rfl (nl rfl)) ?_))))
   obtain ⟨r48, e49, h0⟩ := bnd h0
   refine st (call0_ (r := iV r48) false (H93 a0 r48 e49) ⟨tv, tv⟩ rfl rfl (fun _ => rfl) (st (c_ (cp_ t3 rfl tv) (st (mv_ rfl tv (oe_ (wk_ ⟨[(2, .bool (r48 == 0))], [], []⟩ (fgk (by kernel_rfl)) ?_)))))))
   obtain rfl := Option.some.inj h0
   exact rt_ (ret_ rfl rfl rfl rfl rfl tv)
  ·rintro p20 o1 _ K1 rfl h1 hx1 hK1 hE1 hR1
   refine seq_ (seq_ (reg_ (st (mv_ rfl tv (st (c_ (cp_ ⟨tv, tv⟩ rfl tv) (st (c_ (cp_ ⟨tv, tv⟩ rfl (nl rfl)) (st (c_ (clenL (e := eDIntent) (l0 := a0.intents) rfl rfl tv) (st (c_ (cp_ t3 rfl tv) (oe_ (wk_ ⟨[(1, .ptr 64 0), (3, iV p20), (34, .bool (decide (p20 < (a0.intents.length : Int))))], [(64, [iV a0.table.clock, iV a0.table.next, .lst 4 (a0.table.list_.map eDLease), .lst 2 (a0.intents.map eDIntent), .lst 1 (a0.accounts.map eI), .bool a0.sealed])], []⟩ (fgk (by kernel_rfl)) (ite_ (cb := (decide (p20 < (a0.intents.length : Int)))) rfl (fun c34 => ?_) (fun c34 => ?_))))))))))))))))
   ·replace h1 := ip c34 h1
    refine sk_ (wk_ ⟨[(1, .ptr 64 0), (3, iV p20)], [(64, [iV a0.table.clock, iV a0.table.next, .lst 4 (a0.table.list_.map eDLease), .lst 2 (a0.intents.map eDIntent), .lst 1 (a0.accounts.map eI), .bool a0.sealed])], []⟩ (fgk (by kernel_rfl)) (seq_ (block_ (seq_ (reg_ (st (c_ (cp_ ⟨tv, tv⟩ rfl tv) (st (c_ (cp_ ⟨tv, tv⟩ rfl (nl rfl)) (st (mv_ rfl tv ?_)))))))))))
    obtain ⟨y35, e36, h1⟩ := bnd h1
    refine st (c_ (cidxL (e := eDIntent) (y := y35) rfl rfl tv rfl rfl tv e36) (st (c_ (cp_ ⟨tv, tv⟩ rfl (nl rfl)) (st (c_ (cp_ ⟨tv, tv⟩ rfl (nl rfl)) (st (mv_ rfl tv (oe_ (wk_ ⟨[(1, .ptr 64 0), (3, iV p20), (4, iV y35.lease)], [(64, [iV a0.table.clock, iV a0.table.next, .lst 4 (a0.table.list_.map eDLease), .lst 2 (a0.intents.map eDIntent), .lst 1 (a0.accounts.map eI), .bool a0.sealed])], []⟩ (fgk (by kernel_rfl)) (seq_ (reg_ (st (mv_ rfl tv (st (c_ (cp_ ⟨tv, tv⟩ rfl tv) (st (c_ (cp_ ⟨tv, tv⟩ rfl tv) (st (c_ (cp_ ⟨tv, tv⟩ rfl (nl rfl)) (st (c_ (cp_ t3 rfl tv) ?_)))))))))))))))))))))
    obtain ⟨r37, e38, h1⟩ := bnd h1
    refine st (call0_ (r := .bool r37) false (H56 y35.lease 1 (IntKind.i64.wrap (a0.table.next - 1)) r37 e38) ⟨tv, tv, tv, tv⟩ rfl rfl (fun _ => rfl) (st (c_ (cp_ ⟨tv, tv⟩ rfl tv) (st (mv_ rfl tv (st (pg_ (u := iV p20) rfl (fun hg => (cmv (v := iV p20) rfl tv)) (st (pg_ (u := .bool (decide (p20 > 0))) rfl (fun hg => (cp_ ⟨(fun _ => hg), tv, tv⟩ rfl tv)) (st (pg_ (u := .bool (decide (p20 > 0))) rfl (fun hg => (cmv (v := .may ((!r37) == false) (.bool (decide (p20 > 0)))) rfl (fun _ => hg))) (st (pg_ (u := .ptr 64 3) rfl (fun hg => (cp_ ⟨tv, tv⟩ rfl tv)) (sw ⟨[(1, .ptr 64 0), (3, iV p20), (4, iV y35.lease), (50, .bool (!r37)), (53, .may ((!r37) == false) (.bool (decide (p20 > 0)))), (54, .may (((!r37) == false) && ((decide (p20 > 0)) == true)) (.ptr 64 3))], [(64, [iV a0.table.clock, iV a0.table.next, .lst 4 (a0.table.list_.map eDLease), .lst 2 (a0.intents.map eDIntent), .lst 1 (a0.accounts.map eI), .bool a0.sealed])], []⟩ (fgk (by kernel_rfl)) (pg_ (u := .lst 2 (a0.intents.map eDIntent)) rfl (fun hg => (cp_ ⟨(fun _ => hg), tv⟩ rfl (nl rfl))) (st (pg_ (u := iV p20) rfl (fun hg => (cmv (v := iV p20) rfl tv)) (st (pg_ (u := iV (IntKind.i64.wrap (p20 - 1))) rfl (fun hg => (cp_ ⟨(fun _ => hg), tv, tv⟩ rfl tv)) ?_)))))))))))))))))))
    obtain ⟨y39, e40, h1⟩ := bnd h1
    refine st (pg_ (u := .iptr [iV y39.lease, .bool y39.undo]) rfl (fun hg => (cidxL (e := eDIntent) (y := y39) rfl rfl (fun _ => hg) rfl rfl (fun _ => hg) (ip hg e40))) (st (pg_ (u := .iptr [iV y39.lease, .bool y39.undo]) rfl (fun hg => (cp_ ⟨(fun _ => hg), tv⟩ rfl (nl rfl))) (st (pg_ (u := iV y39.lease) rfl (fun hg => (cp_ ⟨(fun _ => hg), tv⟩ rfl (nl rfl))) (st (pg_ (u := iV y35.lease) rfl (fun hg => (cmv (v := iV y35.lease) rfl tv)) (st (pg_ (u := .bool (decide (y39.lease ≥ y35.lease))) rfl (fun hg => (cp_ ⟨(fun _ => hg), (fun _ => hg), tv⟩ rfl tv)) (st (pickg_ (u := .bool (bif (decide (p20 > 0)) then (decide (y39.lease ≥ y35.lease)) else false)) rfl (fun hg => cpick rfl rfl (fun _ => hg) rfl rfl (fun h => and_ hg (eqt h)) tv rfl) (st (pick_ rfl rfl rfl tv (fun h => eqf h) rfl (st (mv_ rfl tv (st (pg_ (u := .ptr 64 0) rfl (fun hg => (cp_ ⟨tv, tv⟩ rfl tv)) (st (pg_ (u := .agg [iV a0.table.clock, iV a0.table.next, .lst 4 (a0.table.list_.map eDLease)]) rfl (fun hg => (cp_ ⟨(fun _ => hg), tv⟩ rfl (nl rfl))) (st (pg_ (u := iV y35.lease) rfl (fun hg => (cmv (v := iV y35.lease) rfl tv)) ?_)))))))))))))))))))))
    obtain ⟨r41, e42, h1⟩ := bnd h1
    refine sw ⟨[(1, .ptr 64 0), (3, iV p20), (65, .bool (bif (!r37) then true else (bif (decide (p20 > 0)) then (decide (y39.lease ≥ y35.lease)) else false))), (67, .may ((bif (!r37) then true else (bif (decide (p20 > 0)) then (decide (y39.lease ≥ y35.lease)) else false)) == false) (.agg [iV a0.table.clock, iV a0.table.next, .lst 4 (a0.table.list_.map eDLease)])), (68, .may ((bif (!r37) then true else (bif (decide (p20 > 0)) then (decide (y39.lease ≥ y35.lease)) else false)) == false) (iV y35.lease))], [(64, [iV a0.table.clock, iV a0.table.next, .lst 4 (a0.table.list_.map eDLease), .lst 2 (a0.intents.map eDIntent), .lst 1 (a0.accounts.map eI), .bool a0.sealed])], []⟩ (fgk (by kernel_rfl)) (callg_ (r := iV r41) rfl false (fun hg => H92 a0.table y35.lease r41 (ip hg e42)) ⟨(fun hg => hg), (fun hg => hg), tv⟩ (fun _ => rfl) (fun _ => rfl) (fun _ => rfl) (fun h => nomatch h) (st (pg_ (u := .bool (decide (r41 ≥ 0))) rfl (fun hg => (cp_ ⟨(fun _ => hg), tv, tv⟩ rfl tv)) (st (pick_ rfl rfl rfl tv (fun h => eqf h) rfl (oe_ ?_))))))
    obtain ⟨v43, e44, h1⟩ := bl h1
    refine wk_ ⟨[(1, .ptr 64 0), (3, iV p20), (71, .bool v43)], [(64, [iV a0.table.clock, iV a0.table.next, .lst 4 (a0.table.list_.map eDLease), .lst 2 (a0.intents.map eDIntent), .lst 1 (a0.accounts.map eI), .bool a0.sealed])], []⟩ (fgk (by subst e44; kernel_rfl)) (ite_ (cb := v43) rfl (fun c45 => ?_) (fun c45 => ?_))
    ·replace h1 := ip c45 h1
     refine seq_ (reg_ (st (mvc_ tv (oe_ (wk_ ⟨[(2, .bool false)], [], []⟩ (fgk (by kernel_rfl)) ?_)))))
     obtain rfl := Option.some.inj h1
     obtain rfl := hx1 _ rfl
     obtain rfl := Option.some.inj h0
     exact rt_ (hR1 _ (ret_ rfl rfl rfl rfl rfl tv))
    ·replace h1 := inb c45 h1
     refine sk_ (bn_ (wk_ ⟨[(1, .ptr 64 0), (3, iV p20)], [(64, [iV a0.table.clock, iV a0.table.next, .lst 4 (a0.table.list_.map eDLease), .lst 2 (a0.intents.map eDIntent), .lst 1 (a0.accounts.map eI), .bool a0.sealed])], []⟩ (fgk (by kernel_rfl)) (reg_ (st (mv_ rfl tv (st (c_ (cp_ t3 rfl tv) (st (mv_ rfl tv (oe_ ?_))))))))))
     obtain rfl := Option.some.inj h1
     exact hK1 _ rfl _ ⟨[(1, .ptr 64 0), (3, iV (IntKind.i64.wrap (p20 + 1)))], [(64, [iV a0.table.clock, iV a0.table.next, .lst 4 (a0.table.list_.map eDLease), .lst 2 (a0.intents.map eDIntent), .lst 1 (a0.accounts.map eI), .bool a0.sealed])], []⟩ (fgk (by kernel_rfl)) rfl
   ·replace h1 := inb c34 h1
    obtain rfl := Option.some.inj h1
    obtain rfl := hx1 _ rfl
    refine exQ rfl ?_
    exact hE1 _ ⟨[(1, .ptr 64 0)], [(64, [iV a0.table.clock, iV a0.table.next, .lst 4 (a0.table.list_.map eDLease), .lst 2 (a0.intents.map eDIntent), .lst 1 (a0.accounts.map eI), .bool a0.sealed])], []⟩ (fgk (by kernel_rfl)) ⟨rfl, rfl⟩

/- loop.example/g00149/spec.l03Change -/
def c360_r0 : List Ins := [⟨some 1, .box (.t 0), none⟩,
⟨some 2, .p (.mv (.c (.bool false))), none⟩]
def c360_r1 : List Ins := [(iQ 3 (.fieldA (.t 1) 0)),
(iQ 4 (.load (.t 3) 1 false)),
(iQ 5 (.lenS (.t 4))),
⟨some 6, .p (.bin .gtr (.t 5) (.c (iV 0))), none⟩,
(iQ 7 (.mv (.t 6))),
⟨some 8, .p (.fieldA (.t 1) 0), some (7, true)⟩,
⟨some 9, .p (.load (.t 8) 1 false), some (7, true)⟩,
⟨some 10, .p (.lenS (.t 9)), some (7, true)⟩,
⟨some 11, .p (.bin .leq (.t 10) (.c (iV 60))), some (7, true)⟩,
⟨some 12, .pick (.t 7) (.t 11) (.c (.bool false)), none⟩,
(iQ 13 (.mv (.t 12))),
⟨some 14, .p (.fieldA (.t 1) 1), some (13, true)⟩,
⟨some 15, .p (.load (.t 14) 1 false), some (13, true)⟩,
⟨some 16, .p (.lenS (.t 15)), some (13, true)⟩,
⟨some 17, .p (.bin .leq (.t 16) (.c (iV 400))), some (13, true)⟩,
⟨some 18, .pick (.t 13) (.t 17) (.c (.bool false)), none⟩,
(iQ 19 (.mv (.t 18))),
⟨some 20, .p (.fieldA (.t 1) 2), some (19, true)⟩,
⟨some 21, .p (.load (.t 20) 1 false), some (19, true)⟩,
⟨some 22, .p (.un .not (.t 21)), some (19, true)⟩,
⟨some 23, .p (.mv (.t 22)), some (19, true)⟩,
⟨some 24, .p (.fieldA (.t 1) 1), some (23, false)⟩,
⟨some 25, .p (.load (.t 24) 1 false), some (23, false)⟩,
⟨some 26, .p (.bin .eql (.t 25) (.c (.str []))), some (23, false)⟩,
⟨some 27, .pick (.t 23) (.c (.bool true)) (.t 26), some (19, true)⟩,
⟨some 28, .pick (.t 19) (.t 27) (.c (.bool false)), none⟩,
(iQ 2 (.mv (.t 28)))]
def c360 : XFn := { np := 1, nt := 29, res := [.t 2], body := (.seq (.reg c360_r0) (.seq (.reg c360_r1) .ret)) }
def K360 (C : CRel) : Prop := ∀ (a0 : DChange) (r : Bool), g360 a0 = some r → C 360 ⟨[.agg (eDChange a0)], []⟩ ⟨.bool r, [], []⟩
theorem F360 {C : CRel}  (a0 : DChange) (r : Bool) (h0 : g360 a0 = some r) : FnOK C c360 ⟨[.agg (eDChange a0)], []⟩ ⟨.bool r, [], []⟩ := by
 refine fn_ (nl rfl) (seq_ (reg_ (st (box_ rfl tv rfl (st (mvc_ tv (oe_ (wk_ ⟨[(1, .ptr 64 0)], [(64, [.str a0.key, .str a0.value, .bool a0.gone])], []⟩ (fgk (by kernel_rfl)) (seq_ (reg_ (st (c_ (cp_ ⟨tv, tv⟩ rfl tv) (st (c_ (cp_ ⟨tv, tv⟩ rfl (nl rfl)) (st (c_ (cp_ ⟨tv, tv⟩ rfl tv) (st (c_ (cp_ t3 rfl tv) (st (mv_ rfl tv (st (pg_ (u := .ptr 64 0) rfl (fun hg => (cp_ ⟨tv, tv⟩ rfl tv)) (st (pg_ (u := .str a0.key) rfl (fun hg => (cp_ ⟨(fun _ => hg), tv⟩ rfl (nl rfl))) (st (pg_ (u := iV (a0.key.length : Int)) rfl (fun hg => (cp_ ⟨(fun _ => hg), tv⟩ rfl tv)) (st (pg_ (u := .bool (decide ((a0.key.length : Int) ≤ 60))) rfl (fun hg => (cp_ ⟨(fun _ => hg), tv, tv⟩ rfl tv)) (st (pick_ rfl rfl rfl (fun h => eqt h) tv rfl (st (mv_ rfl tv (st (pg_ (u := .ptr 64 1) rfl (fun hg => (cp_ ⟨tv, tv⟩ rfl tv)) (st (pg_ (u := .str a0.value) rfl (fun hg => (cp_ ⟨(fun _ => hg), tv⟩ rfl (nl rfl))) (st (pg_ (u := iV (a0.value.length : Int)) rfl (fun hg => (cp_ ⟨(fun _ => hg), tv⟩ rfl tv)) (st (pg_ (u := .bool (decide ((a0.value.length : Int) ≤ 400))) rfl (fun hg => (cp_ ⟨(fun _ => hg), tv, tv⟩ rfl tv)) (sw ⟨[(1, .ptr 64 0), (13, .bool (bif (decide ((a0.key.length : Int) > 0)) then (decide ((a0.key.length : Int) ≤ 60)) else false)), (17, .may ((bif (decide ((a0.key.length : Int) > 0)) then (decide ((a0.key.length : Int) ≤ 60)) else false) == true) (.bool (decide ((a0.value.length : Int) ≤ 400))))], [(64, [.str a0.key, .str a0.value, .bool a0.gone])], []⟩ (fgk (by kernel_rfl)) (pick_ rfl rfl rfl (fun h => eqt h) tv rfl (st (mv_ rfl tv (st (pg_ (u := .ptr 64 2) rfl (fun hg => (cp_ ⟨tv, tv⟩ rfl tv)) (st (pg_ (u := .bool a0.gone) rfl (fun hg => (cp_ ⟨(fun _ => hg), tv⟩ rfl (nl rfl))) (st (pg_ (u := .bool (!a0.gone)) rfl (fun hg => (cp_ ⟨(fun _ => hg), tv⟩ rfl tv)) (st (pg_ (u := .bool (!a0.gone)) rfl (fun hg => (cmv (v := .may ((bif (bif (decide ((a0.key.length : Int) > 0)) then (decide ((a0.key.length : Int) ≤ 60)) else false) then (decide ((a0.value.length : Int) ≤ 400)) else false) == true) (.bool (!a0.gone))) rfl (fun _ => hg))) (st (pg_ (u := .ptr 64 1) rfl (fun hg => (cp_ ⟨tv, tv⟩ rfl tv)) ?_))))))))))))))))))))))))))))))))))))))))))))))))))))))
 refine st (pg_ (u := .str a0.value) rfl (fun hg => (cp_ ⟨(fun _ => hg), tv⟩ rfl (nl rfl))) (st (pg_ (u := .bool (a0.value == ([] : List UInt8))) rfl (fun hg => (cp_ ⟨(fun _ => hg), tv, tv⟩ rfl tv)) (st (pickg_ (u := .bool (bif (!a0.gone) then true else (a0.value == ([] : List UInt8)))) rfl (fun hg => cpick rfl rfl (fun _ => hg) rfl rfl tv (fun h => and_ hg (eqf h)) rfl) (st (pick_ rfl rfl rfl (fun h => eqt h) tv rfl (st (mv_ rfl tv (oe_ ?_))))))))))
 obtain ⟨v1, e2, h0⟩ := bl h0
 refine wk_ ⟨[(2, .bool v1)], [], []⟩ (fgk (by subst e2; kernel_rfl)) ?_
 obtain rfl := Option.some.inj h0
 exact rt_ (ret_ rfl rfl rfl rfl rfl tv)

/- loop.example/g00149/spec.l03Store -/
def c318_r0 : List Ins := [⟨some 2, .p (.mv (.c (.bool false))), none⟩]
def c318_r1 : List Ins := [(iQ 4 (.mv (.t 0))),
(iQ 5 (.len (.t 4))),
⟨some 6, .p (.bin .gtr (.t 5) (.c (iV 100))), none⟩]
def c318_r2 : List Ins := [⟨some 2, .p (.mv (.c (.bool false))), none⟩]
def c318_r3 : List Ins := [⟨some 3, .p (.mv (.c (iV 0))), none⟩]
def c318_r4 : List Ins := [(iQ 7 (.mv (.t 3))),
(iQ 8 (.mv (.t 0))),
(iQ 9 (.len (.t 8))),
(iQ 10 (.bin .lss (.t 7) (.t 9)))]
def c318_r5 : DP := (.take (iQ 13 (.mv (.t 0)))
(.take (iQ 14 (.mv (.t 3)))
(.take (iQ 15 (.idxA (.t 13) (.t 14) 2))
(.take (iQ 16 (.fieldA (.t 15) 0))
(.take (iQ 17 (.load (.t 16) 1 false))
(.take (iQ 18 (.mv (.t 0)))
(.take (iQ 19 (.mv (.t 3)))
(.take (iQ 20 (.idxA (.t 18) (.t 19) 2))
(.take (iQ 21 (.fieldA (.t 20) 1))
(.take (iQ 22 (.load (.t 21) 1 false))
(.take ⟨some 23, .p (.build [(.str []), (.str []), (.bool false)] [(0, 1, (.t 17)), (1, 1, (.t 22))]), none⟩
(.alt [] ⟨some 24, .call 360 [(.t 23)], none⟩
(.take (iQ 25 (.un .not (.t 24)))
(.take (iQ 26 (.mv (.t 25)))
(.take ⟨some 27, .p (.mv (.t 3)), some (26, false)⟩
(.take ⟨some 28, .p (.bin .gtr (.t 27) (.c (iV 0))), some (26, false)⟩
(.take ⟨some 29, .p (.mv (.t 28)), some (26, false)⟩
(.take ⟨some 30, .p (.mv (.t 0)), some (29, true)⟩
(.take ⟨some 31, .p (.mv (.t 3)), some (29, true)⟩
(.take ⟨some 32, .p (.bin .sub (.t 31) (.c (iV 1))), some (29, true)⟩
(.take ⟨some 33, .p (.idxA (.t 30) (.t 32) 2), some (29, true)⟩
(.take ⟨some 34, .p (.fieldA (.t 33) 0), some (29, true)⟩
(.take ⟨some 35, .p (.load (.t 34) 1 false), some (29, true)⟩
(.take ⟨some 36, .p (.mv (.t 0)), some (29, true)⟩
(.take ⟨some 37, .p (.mv (.t 3)), some (29, true)⟩
(.take ⟨some 38, .p (.idxA (.t 36) (.t 37) 2), some (29, true)⟩
(.take ⟨some 39, .p (.fieldA (.t 38) 0), some (29, true)⟩
(.take ⟨some 40, .p (.load (.t 39) 1 false), some (29, true)⟩
(.take ⟨some 41, .p (.bin .geq (.t 35) (.t 40)), some (29, true)⟩
(.take ⟨some 42, .pick (.t 29) (.t 41) (.c (.bool false)), some (26, false)⟩
(.take ⟨some 43, .pick (.t 26) (.c (.bool true)) (.t 42), none⟩
.fin)))))))))))))))))))
.stop))))))))))))
def c318_r6 : List Ins := [⟨some 2, .p (.mv (.c (.bool false))), none⟩]
def c318_r7 : List Ins := [(iQ 11 (.mv (.t 3))),
⟨some 12, .p (.bin .add (.t 11) (.c (iV 1))), none⟩,
(iQ 3 (.mv (.t 12)))]
def c318_l0 : IR := (.seq (.seq (.reg c318_r4) (.ite (.t 10) .skip (.exit 0))) (.seq (.block 1 (.seq (.draw c318_r5) (.ite (.t 43) (.seq (.reg c318_r6) .ret) .skip))) (.reg c318_r7)))
def c318_r8 : List Ins := [⟨some 2, .p (.mv (.c (.bool true))), none⟩]
def c318 : XFn := { np := 1, nt := 44, res := [.t 2], body := (.seq (.reg c318_r0) (.seq (.seq (.reg c318_r1) (.ite (.t 6) (.seq (.reg c318_r2) .ret) .skip)) (.seq (.seq (.reg c318_r3) (.block 0 (.loop c318_l0))) (.seq (.reg c318_r8) .ret)))) }
def K318 (C : CRel) : Prop := ∀ (a0 : List DPair) (r : Bool), g318 a0 = some r → C 318 ⟨[.lst 2 (a0.map eDPair)], []⟩ ⟨.bool r, [], []⟩
theorem F318 {C : CRel} (H360 : K360 C) (a0 : List DPair) (r : Bool) (h0 : g318 a0 = some r) : FnOK C c318 ⟨[.lst 2 (a0.map eDPair)], []⟩ ⟨.bool r, [], []⟩ := by
 refine fn_ (nl rfl) (seq_ (reg_ (st (mvc_ tv (oe_ (wk_ ⟨[(0, .lst 2 (a0.map eDPair))], [], []⟩ (fgk (by kernel_rfl)) (seq_ (seq_ (reg_ (st (mv_ rfl tv (st (c_ (clenL (e := eDPair) (l0 := a0) rfl rfl tv) (st (c_ (cp_ t3 rfl tv) (oe_ (wk_ ⟨[(0, .lst 2 (a0.map eDPair)), (6, .bool (decide ((a0.length : Int) > 100)))], [], []⟩ (fgk (by kernel_rfl)) (ite_ (cb := (decide ((a0.length : Int) > 100))) rfl (fun c1 => ?_) (fun c1 => ?_)))))))))))))))))))
 ·replace h0 := ip c1 h0
  refine seq_ (reg_ (st (mvc_ tv (oe_ (wk_ ⟨[(2, .bool false)], [], []⟩ (fgk (by kernel_rfl)) ?_)))))
  obtain rfl := Option.some.inj h0
  exact rt_ (ret_ rfl rfl rfl rfl rfl tv)
 ·replace h0 := inb c1 h0
  refine sk_ (wk_ ⟨[(0, .lst 2 (a0.map eDPair))], [], []⟩ (fgk (by kernel_rfl)) (seq_ (seq_ (reg_ (st (mvc_ tv (oe_ (wk_ ⟨[(0, .lst 2 (a0.map eDPair)), (3, iV 0)], [], []⟩ (fgk (by kernel_rfl)) (block_ ?_)))))))))
  obtain ⟨r40, e41, h0⟩ := bnd h0
  refine loop_ (R := (fun S => .inl () = r40 ∧ S = ⟨[], [], []⟩)) (g318_l0 a0) (fun s S => match s with | p14 => S = ⟨[(0, .lst 2 (a0.map eDPair)), (3, iV p14)], [], []⟩) e41 ⟨[(0, .lst 2 (a0.map eDPair)), (3, iV 0)], [], []⟩ (fgk (by kernel_rfl)) rfl 0 (fun _ => rfl) ?_ ?_
  ·rintro S _ hfg ⟨rfl, rfl⟩
   refine wk_ ⟨[], [], []⟩ (fglk hfg (by kernel_rfl)) (seq_ (reg_ (st (mvc_ tv (oe_ (wk_ ⟨[(2, .bool true)], [], []⟩ (fgk (by kernel_rfl)) ?_))))))
   obtain rfl := Option.some.inj h0
   exact rt_ (ret_ rfl rfl rfl rfl rfl tv)
  ·rintro p14 o1 _ K1 rfl h1 hx1 hK1 hE1 hR1
   refine seq_ (seq_ (reg_ (st (mv_ rfl tv (st (mv_ rfl tv (st (c_ (clenL (e := eDPair) (l0 := a0) rfl rfl tv) (st (c_ (cp_ t3 rfl tv) (oe_ (wk_ ⟨[(0, .lst 2 (a0.map eDPair)), (3, iV p14), (10, .bool (decide (p14 < (a0.length : Int))))], [], []⟩ (fgk (by kernel_rfl)) (ite_ (cb := (decide (p14 < (a0.length : Int)))) rfl (fun c28 => ?_) (fun c28 => ?_))))))))))))))
   ·replace h1 := ip c28 h1
    refine sk_ (wk_ ⟨[(0, .lst 2 (a0.map eDPair)), (3, iV p14)], [], []⟩ (fgk (by kernel_rfl)) (seq_ (block_ (seq_ ?_))))
    obtain ⟨y29, e30, h1⟩ := bnd h1
    obtain ⟨r31, e32, h1⟩ := bnd h1
    obtain ⟨y33, e34, h1⟩ := bnd h1
    obtain ⟨y35, e36, h1⟩ := bnd h1
    refine draw_ (dtake tv (mv_ rfl tv (⟨tv, (dtake tv (mv_ rfl tv (⟨tv, (dtake tv (c_ (cidxL (e := eDPair) (y := y29) rfl rfl tv rfl rfl tv e30) (⟨tv, (dtake tv (c_ (cp_ ⟨tv, tv⟩ rfl (nl rfl)) (⟨tv, (dtake tv (c_ (cp_ ⟨tv, tv⟩ rfl (nl rfl)) (⟨tv, (dtake tv (mv_ rfl tv (⟨tv, (dtake tv (mv_ rfl tv (⟨tv, (dtake tv (c_ (cidxL (e := eDPair) (y := y29) rfl rfl tv rfl rfl tv e30) (⟨tv, (dtake tv (c_ (cp_ ⟨tv, tv⟩ rfl (nl rfl)) (⟨tv, (dtake tv (c_ (cp_ ⟨tv, tv⟩ rfl (nl rfl)) (⟨tv, (dtake tv (c_ (v := .agg [.str y29.key, .str y29.value, .bool false]) (cp_ ⟨tv, tv, tv⟩ rfl ⟨⟨rfl, rfl, nl rfl⟩, ⟨rfl, rfl, nl rfl⟩, tv⟩) (⟨tv, (dalt (call0_ (r := .bool r31) false (H360 (DChange.mk y29.key y29.value false) r31 e32) ⟨tv, tv⟩ rfl rfl (fun _ => rfl) (dkw ⟨[(0, .lst 2 (a0.map eDPair)), (3, iV p14), (24, .bool r31)], [], []⟩ (fgk (by kernel_rfl)) ⟨[], tv, tv, (dtake tv (c_ (cp_ ⟨tv, tv⟩ rfl tv) (⟨tv, (dtake tv (mv_ rfl tv (⟨tv, (dtake tv (pg_ (u := iV p14) rfl (fun hg => (cmv (v := iV p14) rfl tv)) (⟨tv, ?_⟩)))⟩)))⟩)))⟩)) dstop)⟩)))⟩)))⟩)))⟩)))⟩)))⟩)))⟩)))⟩)))⟩)))⟩)))⟩)))
    refine dtake tv (pg_ (u := .bool (decide (p14 > 0))) rfl (fun hg => (cp_ ⟨(fun _ => hg), tv, tv⟩ rfl tv)) (⟨tv, (dtake tv (pg_ (u := .bool (decide (p14 > 0))) rfl (fun hg => (cmv (v := .may ((!r31) == false) (.bool (decide (p14 > 0)))) rfl (fun _ => hg))) (⟨tv, (dtake tv (pg_ (u := .lst 2 (a0.map eDPair)) rfl (fun hg => (cmv (v := .lst 2 (a0.map eDPair)) rfl tv)) (⟨tv, (dtake tv (pg_ (u := iV p14) rfl (fun hg => (cmv (v := iV p14) rfl tv)) (⟨tv, (dtake tv (pg_ (u := iV (IntKind.i64.wrap (p14 - 1))) rfl (fun hg => (cp_ ⟨(fun _ => hg), tv, tv⟩ rfl tv)) (⟨tv, (dtake tv (pg_ (u := .iptr [.str y33.key, .str y33.value]) rfl (fun hg => (cidxL (e := eDPair) (y := y33) rfl rfl (fun _ => hg) rfl rfl (fun _ => hg) (ip hg e34))) (⟨tv, (dtake tv (pg_ (u := .iptr [.str y33.key, .str y33.value]) rfl (fun hg => (cp_ ⟨(fun _ => hg), tv⟩ rfl (nl rfl))) (⟨tv, (dtake tv (pg_ (u := .str y33.key) rfl (fun hg => (cp_ ⟨(fun _ => hg), tv⟩ rfl (nl rfl))) (⟨tv, (dtake tv (pg_ (u := .lst 2 (a0.map eDPair)) rfl (fun hg => (cmv (v := .lst 2 (a0.map eDPair)) rfl tv)) (⟨tv, (dtake tv (pg_ (u := iV p14) rfl (fun hg => (cmv (v := iV p14) rfl tv)) (⟨tv, (dtake tv (pg_ (u := .iptr [.str y35.key, .str y35.value]) rfl (fun hg => (cidxL (e := eDPair) (y := y35) rfl rfl (fun _ => hg) rfl rfl (fun _ => hg) (ip hg e36))) (⟨tv, (dtake tv (pg_ (u := .iptr [.str y35.key, .str y35.value]) rfl (fun hg => (cp_ ⟨(fun _ => hg), tv⟩ rfl (nl rfl))) (⟨tv, (dtake tv (pg_ (u := .str y35.key) rfl (fun hg => (cp_ ⟨(fun _ => hg), tv⟩ rfl (nl rfl))) (⟨tv, (dtake tv (pg_ (u := .bool (!(Op.bytesLess y33.key y35.key))) rfl (fun hg => (cp_ ⟨(fun _ => hg), (fun _ => hg), tv⟩ rfl tv)) (⟨tv, (dtake tv (pickg_ (u := .bool (bif (decide (p14 > 0)) then (!(Op.bytesLess y33.key y35.key)) else false)) rfl (fun hg => cpick rfl rfl (fun _ => hg) rfl rfl (fun h => and_ hg (eqt h)) tv rfl) (⟨tv, (dtake tv (pick_ rfl rfl rfl tv (fun h => eqf h) rfl ?_))⟩)))⟩)))⟩)))⟩)))⟩)))⟩)))⟩)))⟩)))⟩)))⟩)))⟩)))⟩)))⟩)))⟩)))⟩))
    refine ⟨tv, (dfin ?_)⟩
    obtain ⟨v37, e38, h1⟩ := bl h1
    refine wk_ ⟨[(0, .lst 2 (a0.map eDPair)), (3, iV p14), (43, .bool v37)], [], []⟩ (fgk (by subst e38; kernel_rfl)) (ite_ (cb := v37) rfl (fun c39 => ?_) (fun c39 => ?_))
    ·replace h1 := ip c39 h1
     refine seq_ (reg_ (st (mvc_ tv (oe_ (wk_ ⟨[(2, .bool false)], [], []⟩ (fgk (by kernel_rfl)) ?_)))))
     obtain rfl := Option.some.inj h1
     obtain rfl := hx1 _ rfl
     obtain rfl := Option.some.inj h0
     exact rt_ (hR1 _ (ret_ rfl rfl rfl rfl rfl tv))
    ·replace h1 := inb c39 h1
     refine sk_ (bn_ (wk_ ⟨[(0, .lst 2 (a0.map eDPair)), (3, iV p14)], [], []⟩ (fgk (by kernel_rfl)) (reg_ (st (mv_ rfl tv (st (c_ (cp_ t3 rfl tv) (st (mv_ rfl tv (oe_ ?_))))))))))
     obtain rfl := Option.some.inj h1
     exact hK1 _ rfl _ ⟨[(0, .lst 2 (a0.map eDPair)), (3, iV (IntKind.i64.wrap (p14 + 1)))], [], []⟩ (fgk (by kernel_rfl)) rfl
   ·replace h1 := inb c28 h1
    obtain rfl := Option.some.inj h1
    obtain rfl := hx1 _ rfl
    refine exQ rfl ?_
    exact hE1 _ ⟨[], [], []⟩ (fgk (by kernel_rfl)) ⟨rfl, rfl⟩

/- loop.example/g00149/spec.l09Number -/
def c361_r0 : List Ins := [⟨some 2, .p (.mv (.c (iV 0))), none⟩,
⟨some 3, .p (.mv (.c (.bool false))), none⟩]
def c361_r1 : List Ins := [⟨some 4, .p (.mv (.c (iV 0))), none⟩]
def c361_r2 : List Ins := [⟨some 5, .p (.mv (.c (iV 0))), none⟩]
def c361_r3 : List Ins := [(iQ 8 (.mv (.t 5))),
(iQ 9 (.mv (.t 0))),
(iQ 10 (.lenS (.t 9))),
(iQ 11 (.bin .lss (.t 8) (.t 10)))]
def c361_r4 : List Ins := [⟨some 6, .p (.mv (.c (iV (-1)))), none⟩]
def c361_r5 : List Ins := [⟨some 7, .p (.mv (.c (iV 0))), none⟩]
def c361_r6 : List Ins := [(iQ 14 (.mv (.t 7))),
⟨some 15, .p (.bin .lss (.t 14) (.c (iV 16))), none⟩]
def c361_r7 : DP := (.take (iQ 18 (.mv (.t 7)))
(.take ⟨some 19, .p (.idxStr (.c (.str [48, 49, 50, 51, 52, 53, 54, 55, 56, 57, 97, 98, 99, 100, 101, 102])) (.t 18)), none⟩
(.take (iQ 20 (.mv (.t 0)))
(.take (iQ 21 (.mv (.t 5)))
(.take (iQ 22 (.idxStr (.t 20) (.t 21)))
(.take (iQ 23 (.bin .eql (.t 19) (.t 22)))
.fin))))))
def c361_r8 : List Ins := [(iQ 24 (.mv (.t 7))),
(iQ 6 (.mv (.t 24)))]
def c361_r9 : List Ins := [(iQ 16 (.mv (.t 7))),
⟨some 17, .p (.bin .add (.t 16) (.c (iV 1))), none⟩,
(iQ 7 (.mv (.t 17)))]
def c361_l0 : IR := (.seq (.seq (.reg c361_r6) (.ite (.t 15) .skip (.exit 2))) (.seq (.block 3 (.seq (.draw c361_r7) (.ite (.t 23) (.reg c361_r8) .skip))) (.reg c361_r9)))
def c361_r10 : List Ins := [(iQ 25 (.mv (.t 6))),
⟨some 26, .p (.bin .lss (.t 25) (.c (iV 0))), none⟩,
(iQ 27 (.mv (.t 26))),
⟨some 28, .p (.mv (.t 5)), some (27, false)⟩,
⟨some 29, .p (.bin .eql (.t 28) (.c (iV 0))), some (27, false)⟩,
⟨some 30, .p (.mv (.t 29)), some (27, false)⟩,
⟨some 31, .p (.mv (.t 6)), some (30, true)⟩,
⟨some 32, .p (.bin .gtr (.t 31) (.c (iV 7))), some (30, true)⟩,
⟨some 33, .pick (.t 30) (.t 32) (.c (.bool false)), some (27, false)⟩,
⟨some 34, .pick (.t 27) (.c (.bool true)) (.t 33), none⟩]
def c361_r11 : List Ins := [⟨some 2, .p (.mv (.c (iV 0))), none⟩,
⟨some 3, .p (.mv (.c (.bool false))), none⟩]
def c361_r12 : List Ins := [(iQ 35 (.mv (.t 4))),
⟨some 36, .p (.bin .mul (.t 35) (.c (iV 16))), none⟩,
(iQ 37 (.mv (.t 6))),
(iQ 38 (.bin .add (.t 36) (.t 37))),
(iQ 4 (.mv (.t 38)))]
def c361_r13 : List Ins := [(iQ 12 (.mv (.t 5))),
⟨some 13, .p (.bin .add (.t 12) (.c (iV 1))), none⟩,
(iQ 5 (.mv (.t 13)))]
def c361_l1 : IR := (.seq (.seq (.reg c361_r3) (.ite (.t 11) .skip (.exit 0))) (.seq (.block 1 (.seq (.reg c361_r4) (.seq (.seq (.reg c361_r5) (.block 2 (.loop c361_l0))) (.seq (.seq (.reg c361_r10) (.ite (.t 34) (.seq (.reg c361_r11) .ret) .skip)) (.reg c361_r12))))) (.reg c361_r13)))
def c361_r14 : List Ins := [(iQ 39 (.mv (.t 4))),
(iQ 40 (.mv (.t 0))),
(iQ 41 (.lenS (.t 40))),
⟨some 42, .p (.bin .eql (.t 41) (.c (iV 16))), none⟩,
(iQ 2 (.mv (.t 39))),
(iQ 3 (.mv (.t 42)))]
def c361 : XFn := { np := 1, nt := 43, res := [.t 2, .t 3], body := (.seq (.reg c361_r0) (.seq (.reg c361_r1) (.seq (.seq (.reg c361_r2) (.block 0 (.loop c361_l1))) (.seq (.reg c361_r14) .ret)))) }
def K361 (C : CRel) : Prop := ∀ (a0 : List UInt8) (r : Int × Bool), g361 a0 = some r → C 361 ⟨[.str a0], []⟩ ⟨.tup [iV r.1, .bool r.2], [], []⟩
theorem F361 {C : CRel}  (a0 : List UInt8) (r : Int × Bool) (h0 : g361 a0 = some r) : FnOK C c361 ⟨[.str a0], []⟩ ⟨.tup [iV r.1, .bool r.2], [], []⟩ := by
 refine fn_ (nl rfl) (seq_ (reg_ (st (mvc_ tv (st (mvc_ tv (oe_ (wk_ ⟨[(0, .str a0)], [], []⟩ (fgk (by kernel_rfl)) (seq_ (reg_ (st (mvc_ tv (oe_ (wk_ ⟨[(0, .str a0), (4, iV 0)], [], []⟩ (fgk (by kernel_rfl)) (seq_ (seq_ (reg_ (st (mvc_ tv (oe_ (wk_ ⟨[(0, .str a0), (4, iV 0), (5, iV 0)], [], []⟩ (fgk (by kernel_rfl)) (block_ ?_))))))))))))))))))))))
 obtain ⟨r90, e91, h0⟩ := bnd h0
 refine loop_ (R := (fun S => ∃ p51 : Int, .inl p51 = r90 ∧ S = ⟨[(0, .str a0), (4, iV p51)], [], []⟩)) (g361_l0 a0) (fun s S => match s with | (p24, p25) => S = ⟨[(0, .str a0), (4, iV p24), (5, iV p25)], [], []⟩) e91 ⟨[(0, .str a0), (4, iV 0), (5, iV 0)], [], []⟩ (fgk (by kernel_rfl)) rfl 0 (fun _ => rfl) ?_ ?_
 ·rintro S _ hfg ⟨p51, rfl, rfl⟩
  refine wk_ ⟨[(0, .str a0), (4, iV p51)], [], []⟩ (fglk hfg (by kernel_rfl)) (seq_ (reg_ (st (mv_ rfl tv (st (mv_ rfl tv (st (c_ (cp_ ⟨tv, tv⟩ rfl tv) (st (c_ (cp_ t3 rfl tv) (st (mv_ rfl tv (st (mv_ rfl tv (oe_ (wk_ ⟨[(2, iV p51), (3, .bool ((a0.length : Int) == 16))], [], []⟩ (fgk (by kernel_rfl)) ?_))))))))))))))))
  obtain rfl := Option.some.inj h0
  exact rt_ (ret_ rfl rfl rfl rfl rfl tv)
 ·rintro ⟨p24, p25⟩ o1 _ K1 rfl h1 hx1 hK1 hE1 hR1
  refine seq_ (seq_ (reg_ (st (mv_ rfl tv (st (mv_ rfl tv (st (c_ (cp_ ⟨tv, tv⟩ rfl tv) (st (c_ (cp_ t3 rfl tv) (oe_ (wk_ ⟨[(0, .str a0), (4, iV p24), (5, iV p25), (11, .bool (decide (p25 < (a0.length : Int))))], [], []⟩ (fgk (by kernel_rfl)) (ite_ (cb := (decide (p25 < (a0.length : Int)))) rfl (fun c52 => ?_) (fun c52 => ?_))))))))))))))
  ·replace h1 := ip c52 h1
   refine sk_ (wk_ ⟨[(0, .str a0), (4, iV p24), (5, iV p25)], [], []⟩ (fgk (by kernel_rfl)) (seq_ (block_ (seq_ (reg_ (st (mvc_ tv (oe_ (wk_ ⟨[(0, .str a0), (4, iV p24), (5, iV p25), (6, iV (-1))], [], []⟩ (fgk (by kernel_rfl)) (seq_ (seq_ (reg_ (st (mvc_ tv (oe_ (wk_ ⟨[(0, .str a0), (4, iV p24), (5, iV p25), (6, iV (-1)), (7, iV 0)], [], []⟩ (fgk (by kernel_rfl)) (block_ ?_)))))))))))))))))
   obtain ⟨r85, e86, h1⟩ := bnd h1
   refine loop_ (R := (fun S => ∃ p71 : Int, p71 = r85 ∧ S = ⟨[(0, .str a0), (4, iV p24), (5, iV p25), (6, iV p71)], [], []⟩)) (g361_l1 a0 p25) (fun s S => match s with | (p60, p61) => S = ⟨[(0, .str a0), (4, iV p24), (5, iV p25), (6, iV p60), (7, iV p61)], [], []⟩) e86 ⟨[(0, .str a0), (4, iV p24), (5, iV p25), (6, iV (-1)), (7, iV 0)], [], []⟩ (fgk (by kernel_rfl)) rfl 2 (fun _ => rfl) ?_ ?_
   ·rintro S _ hfg ⟨p71, rfl, rfl⟩
    refine wk_ ⟨[(0, .str a0), (4, iV p24), (5, iV p25), (6, iV p71)], [], []⟩ (fglk hfg (by kernel_rfl)) (seq_ (seq_ (reg_ (st (mv_ rfl tv (st (c_ (cp_ t3 rfl tv) (st (mv_ rfl tv (st (pg_ (u := iV p25) rfl (fun hg => (cmv (v := iV p25) rfl tv)) (st (pg_ (u := .bool (p25 == 0)) rfl (fun hg => (cp_ ⟨(fun _ => hg), tv, tv⟩ rfl tv)) (st (pg_ (u := .bool (p25 == 0)) rfl (fun hg => (cmv (v := .may ((decide (p71 < 0)) == false) (.bool (p25 == 0))) rfl (fun _ => hg))) (st (pg_ (u := iV p71) rfl (fun hg => (cmv (v := iV p71) rfl tv)) (st (pg_ (u := .bool (decide (p71 > 7))) rfl (fun hg => (cp_ ⟨(fun _ => hg), tv, tv⟩ rfl tv)) (st (pickg_ (u := .bool (bif (p25 == 0) then (decide (p71 > 7)) else false)) rfl (fun hg => cpick rfl rfl (fun _ => hg) rfl rfl (fun h => and_ hg (eqt h)) tv rfl) (st (pick_ rfl rfl rfl tv (fun h => eqf h) rfl (oe_ ?_))))))))))))))))))))))))
    obtain ⟨v87, e88, h1⟩ := bl h1
    refine wk_ ⟨[(0, .str a0), (4, iV p24), (5, iV p25), (6, iV p71), (34, .bool v87)], [], []⟩ (fgk (by subst e88; kernel_rfl)) (ite_ (cb := v87) rfl (fun c89 => ?_) (fun c89 => ?_))
    ·replace h1 := ip c89 h1
     refine seq_ (reg_ (st (mvc_ tv (st (mvc_ tv (oe_ (wk_ ⟨[(2, iV 0), (3, .bool false)], [], []⟩ (fgk (by kernel_rfl)) ?_)))))))
     obtain rfl := Option.some.inj h1
     obtain rfl := hx1 _ rfl
     obtain rfl := Option.some.inj h0
     exact rt_ (hR1 _ (ret_ rfl rfl rfl rfl rfl tv))
    ·replace h1 := inb c89 h1
     refine sk_ (wk_ ⟨[(0, .str a0), (4, iV p24), (5, iV p25), (6, iV p71)], [], []⟩ (fgk (by kernel_rfl)) (reg_ (st (mv_ rfl tv (st (c_ (cp_ t3 rfl tv) (st (mv_ rfl tv (st (c_ (cp_ t3 rfl tv) (st (mv_ rfl tv (oe_ (bn_ (wk_ ⟨[(0, .str a0), (4, iV (IntKind.i64.wrap ((IntKind.i64.wrap (p24 * 16)) + p71))), (5, iV p25)], [], []⟩ (fgk (by kernel_rfl)) (reg_ (st (mv_ rfl tv (st (c_ (cp_ t3 rfl tv) (st (mv_ rfl tv (oe_ ?_)))))))))))))))))))))))
     obtain rfl := Option.some.inj h1
     exact hK1 _ rfl _ ⟨[(0, .str a0), (4, iV (IntKind.i64.wrap ((IntKind.i64.wrap (p24 * 16)) + p71))), (5, iV (IntKind.i64.wrap (p25 + 1)))], [], []⟩ (fgk (by kernel_rfl)) rfl
   ·rintro ⟨p60, p61⟩ o2 _ K2 rfl h2 hx2 hK2 hE2 hR2
    refine seq_ (seq_ (reg_ (st (mv_ rfl tv (st (c_ (cp_ t3 rfl tv) (oe_ (wk_ ⟨[(0, .str a0), (4, iV p24), (5, iV p25), (6, iV p60), (7, iV p61), (15, .bool (decide (p61 < 16)))], [], []⟩ (fgk (by kernel_rfl)) (ite_ (cb := (decide (p61 < 16))) rfl (fun c72 => ?_) (fun c72 => ?_))))))))))
    ·replace h2 := ip c72 h2
     refine sk_ (wk_ ⟨[(0, .str a0), (4, iV p24), (5, iV p25), (6, iV p60), (7, iV p61)], [], []⟩ (fgk (by kernel_rfl)) (seq_ (blockJ (fun S => ∃ p78 : Int, S = ⟨[(0, .str a0), (4, iV p24), (5, iV p25), (6, iV p78), (7, iV p61)], [], []⟩ ∧ g361_j0 p61 p78 = some o2) ?_ (fun J79 => ?_))))
     ·rintro _ ⟨p78, rfl, h2⟩
      refine wk_ ⟨[(0, .str a0), (4, iV p24), (5, iV p25), (6, iV p78), (7, iV p61)], [], []⟩ (fgk (by kernel_rfl)) (reg_ (st (mv_ rfl tv (st (c_ (cp_ t3 rfl tv) (st (mv_ rfl tv (oe_ ?_))))))))
      obtain rfl := Option.some.inj h2
      exact hK2 _ rfl _ ⟨[(0, .str a0), (4, iV p24), (5, iV p25), (6, iV p78), (7, iV (IntKind.i64.wrap (p61 + 1)))], [], []⟩ (fgk (by kernel_rfl)) rfl
     ·refine seq_ ?_
      obtain ⟨y80, e81, h2⟩ := bnd h2
      obtain ⟨y82, e83, h2⟩ := bnd h2
      refine draw_ (dtake tv (mv_ rfl tv (⟨tv, (dtake tv (c_ (cidxS (y := y80) rfl rfl tv rfl rfl tv e81) (⟨tv, (dtake tv (mv_ rfl tv (⟨tv, (dtake tv (mv_ rfl tv (⟨tv, (dtake tv (c_ (cidxS (y := y82) rfl rfl tv rfl rfl tv e83) (⟨tv, (dtake tv (c_ (cp_ t3 rfl tv) (⟨tv, (dfin (wk_ ⟨[(0, .str a0), (4, iV p24), (5, iV p25), (6, iV p60), (7, iV p61), (23, .bool (((y80).toNat : Int) == ((y82).toNat : Int)))], [], []⟩ (fgk (by kernel_rfl)) (ite_ (cb := (((y80).toNat : Int) == ((y82).toNat : Int))) rfl (fun c84 => ?_) (fun c84 => ?_))))⟩)))⟩)))⟩)))⟩)))⟩)))⟩)))
      ·replace h2 := ip c84 h2
       refine reg_ (st (mv_ rfl tv (st (mv_ rfl tv (oe_ (bn_ ?_))))))
       exact J79 _ ⟨[(0, .str a0), (4, iV p24), (5, iV p25), (6, iV p61), (7, iV p61)], [], []⟩ (fgk (by kernel_rfl)) ⟨_, rfl, h2⟩
      ·replace h2 := inb c84 h2
       refine sk_ (bn_ ?_)
       exact J79 _ ⟨[(0, .str a0), (4, iV p24), (5, iV p25), (6, iV p60), (7, iV p61)], [], []⟩ (fgk (by kernel_rfl)) ⟨_, rfl, h2⟩
    ·replace h2 := inb c72 h2
     obtain rfl := Option.some.inj h2
     obtain rfl := hx2 _ rfl
     refine exQ rfl ?_
     exact hE2 _ ⟨[(0, .str a0), (4, iV p24), (5, iV p25), (6, iV p60)], [], []⟩ (fgk (by kernel_rfl)) ⟨_, rfl, rfl⟩
  ·replace h1 := inb c52 h1
   obtain rfl := Option.some.inj h1
   obtain rfl := hx1 _ rfl
   refine exQ rfl ?_
   exact hE1 _ ⟨[(0, .str a0), (4, iV p24)], [], []⟩ (fgk (by kernel_rfl)) ⟨_, rfl, rfl⟩

/- loop.example/g00149/spec.l09Pair -/
def c319_r0 : List Ins := [⟨some 2, .box (.t 0), none⟩,
⟨some 3, .box (.t 1), none⟩,
⟨some 4, .alloc [(iV 0), (iV 0), (.own 259 0 4 []), (.own 260 0 2 []), (.own 261 0 1 []), (.bool false)], none⟩,
⟨some 5, .p (.mv (.c (.bool false))), none⟩]
def c319_r1 : List Ins := [(iQ 19 (.fieldA (.t 3) 0)),
(iQ 20 (.load (.t 19) 1 false)),
(iQ 21 (.lenS (.t 20))),
⟨some 22, .p (.bin .eql (.t 21) (.c (iV 23))), none⟩,
(iQ 23 (.mv (.t 22))),
⟨some 24, .p (.fieldA (.t 3) 0), some (23, true)⟩,
⟨some 25, .p (.load (.t 24) 1 false), some (23, true)⟩,
⟨some 26, .p (.sliceStr (.t 25) none (some (.c (iV 7)))), some (23, true)⟩,
⟨some 27, .p (.bin .eql (.t 26) (.c (.str [105, 110, 116, 101, 110, 116, 47]))), some (23, true)⟩,
⟨some 28, .pick (.t 23) (.t 27) (.c (.bool false)), none⟩,
(iQ 18 (.mv (.t 28)))]
def c319_r2 : List Ins := [(iQ 30 (.fieldA (.t 3) 0)),
(iQ 31 (.load (.t 30) 1 false)),
⟨some 32, .p (.sliceStr (.t 31) (some (.c (iV 7))) none), none⟩,
⟨some 33, .call 361 [(.t 32)], none⟩,
(iQ 29 (.mv (.t 33))),
(iQ 34 (.ext (.t 29) 0)),
(iQ 35 (.ext (.t 29) 1)),
(iQ 6 (.mv (.t 34))),
(iQ 7 (.mv (.t 35)))]
def c319_r3 : List Ins := [(iQ 36 (.fieldA (.t 2) 3)),
(iQ 37 (.load (.t 36) 1 false)),
(iQ 38 (.mv (.t 6))),
(iQ 39 (.fieldA (.t 3) 1)),
(iQ 40 (.load (.t 39) 1 false)),
⟨some 41, .p (.bin .eql (.t 40) (.c (.str [117, 110, 100, 111]))), none⟩,
⟨some 42, .p (.build [(iV 0), (.bool false)] [(0, 1, (.t 38)), (1, 1, (.t 41))]), none⟩,
⟨some 43, .mkS 2 [(iV 0), (.bool false)] 1 [(0, (.t 42))], none⟩,
⟨some 44, .app 2 16 (.t 37) (.t 43), none⟩,
(iQ 45 (.fieldA (.t 2) 3)),
⟨none, .store (.t 45) (.t 44) 1, none⟩]
def c319_r4 : DP := (.take (iQ 46 (.load (.t 2) 6 true))
(.take (iQ 47 (.mv (.t 7)))
(.take (iQ 48 (.mv (.t 47)))
(.take ⟨some 49, .p (.fieldA (.t 3) 1), some (48, true)⟩
(.take ⟨some 50, .p (.load (.t 49) 1 false), some (48, true)⟩
(.take ⟨some 51, .p (.bin .eql (.t 50) (.c (.str [117, 110, 100, 111]))), some (48, true)⟩
(.take ⟨some 52, .p (.mv (.t 51)), some (48, true)⟩
(.take ⟨some 53, .p (.fieldA (.t 3) 1), some (52, false)⟩
(.take ⟨some 54, .p (.load (.t 53) 1 false), some (52, false)⟩
(.take ⟨some 55, .p (.bin .eql (.t 54) (.c (.str [98, 101, 103, 117, 110]))), some (52, false)⟩
(.take ⟨some 56, .pick (.t 52) (.c (.bool true)) (.t 55), some (48, true)⟩
(.take ⟨some 57, .pick (.t 48) (.t 56) (.c (.bool false)), none⟩
(.alt [⟨some 57, .pick (.t 48) (.t 56) (.c (.bool false)), none⟩, ⟨some 56, .pick (.t 52) (.c (.bool true)) (.t 55), some (48, true)⟩, ⟨some 55, .p (.bin .eql (.t 54) (.c (.str [98, 101, 103, 117, 110]))), some (52, false)⟩, ⟨some 54, .p (.load (.t 53) 1 false), some (52, false)⟩, ⟨some 53, .p (.fieldA (.t 3) 1), some (52, false)⟩] ⟨none, .store (.t 4) (.t 46) 6, none⟩
(.take (iQ 5 (.mv (.t 57)))
.fin)
.stop)))))))))))))
def c319_r5 : List Ins := [(iQ 59 (.fieldA (.t 3) 0)),
(iQ 60 (.load (.t 59) 1 false)),
(iQ 61 (.lenS (.t 60))),
⟨some 62, .p (.bin .eql (.t 61) (.c (iV 22))), none⟩,
(iQ 63 (.mv (.t 62))),
⟨some 64, .p (.fieldA (.t 3) 0), some (63, true)⟩,
⟨some 65, .p (.load (.t 64) 1 false), some (63, true)⟩,
⟨some 66, .p (.sliceStr (.t 65) none (some (.c (iV 6)))), some (63, true)⟩,
⟨some 67, .p (.bin .eql (.t 66) (.c (.str [108, 101, 97, 115, 101, 47]))), some (63, true)⟩,
⟨some 68, .pick (.t 63) (.t 67) (.c (.bool false)), none⟩,
(iQ 69 (.mv (.t 68))),
⟨some 70, .p (.fieldA (.t 3) 1), some (69, true)⟩,
⟨some 71, .p (.load (.t 70) 1 false), some (69, true)⟩,
⟨some 72, .p (.lenS (.t 71)), some (69, true)⟩,
⟨some 73, .p (.bin .gtr (.t 72) (.c (iV 32))), some (69, true)⟩,
⟨some 74, .pick (.t 69) (.t 73) (.c (.bool false)), none⟩,
(iQ 58 (.mv (.t 74)))]
def c319_r6 : List Ins := [(iQ 76 (.fieldA (.t 3) 0)),
(iQ 77 (.load (.t 76) 1 false)),
⟨some 78, .p (.sliceStr (.t 77) (some (.c (iV 6))) none), none⟩,
⟨some 79, .call 361 [(.t 78)], none⟩,
(iQ 75 (.mv (.t 79))),
(iQ 80 (.ext (.t 75) 0)),
(iQ 81 (.ext (.t 75) 1)),
(iQ 8 (.mv (.t 80))),
(iQ 9 (.mv (.t 81)))]
def c319_r7 : List Ins := [(iQ 83 (.fieldA (.t 3) 1)),
(iQ 84 (.load (.t 83) 1 false)),
⟨some 85, .p (.sliceStr (.t 84) none (some (.c (iV 16)))), none⟩,
⟨some 86, .call 361 [(.t 85)], none⟩,
(iQ 82 (.mv (.t 86))),
(iQ 87 (.ext (.t 82) 0)),
(iQ 88 (.ext (.t 82) 1)),
(iQ 10 (.mv (.t 87))),
(iQ 11 (.mv (.t 88)))]
def c319_r8 : List Ins := [(iQ 90 (.fieldA (.t 3) 1)),
(iQ 91 (.load (.t 90) 1 false)),
⟨some 92, .p (.sliceStr (.t 91) (some (.c (iV 16))) (some (.c (iV 32)))), none⟩,
⟨some 93, .call 361 [(.t 92)], none⟩,
(iQ 89 (.mv (.t 93))),
(iQ 94 (.ext (.t 89) 0)),
(iQ 95 (.ext (.t 89) 1)),
(iQ 12 (.mv (.t 94))),
(iQ 13 (.mv (.t 95)))]
def c319_r9 : DP := (.take (iQ 96 (.fieldA (.t 2) 0))
(.take (iQ 97 (.fieldA (.t 96) 2))
(.take (iQ 98 (.load (.t 97) 1 false))
(.take (iQ 99 (.mv (.t 8)))
(.take (iQ 100 (.mv (.t 10)))
(.take (iQ 101 (.mv (.t 12)))
(.take (iQ 102 (.fieldA (.t 3) 1))
(.take (iQ 103 (.load (.t 102) 1 false))
(.take ⟨some 104, .p (.sliceStr (.t 103) (some (.c (iV 32))) none), none⟩
(.take ⟨some 105, .p (.bin .eql (.t 104) (.c (.str [113, 117, 101, 117, 101, 100]))), none⟩
(.take ⟨some 106, .p (.build [(iV 0), (iV 0), (iV 0), (.bool false)] [(0, 1, (.t 99)), (1, 1, (.t 100)), (2, 1, (.t 101)), (3, 1, (.t 105))]), none⟩
(.alt [(iQ 98 (.load (.t 97) 1 false)), (iQ 97 (.fieldA (.t 96) 2)), (iQ 96 (.fieldA (.t 2) 0))] ⟨some 107, .mkS 4 [(iV 0), (iV 0), (iV 0), (.bool false)] 1 [(0, (.t 106))], none⟩
(.alt [] ⟨some 108, .app 4 32 (.t 98) (.t 107), none⟩
(.take (iQ 109 (.fieldA (.t 2) 0))
(.take (iQ 110 (.fieldA (.t 109) 2))
(.alt [] ⟨none, .store (.t 110) (.t 108) 1, none⟩
.fin
.stop)))
.stop)
.stop))))))))))))
def c319_r10 : DP := (.take (iQ 111 (.load (.t 2) 6 true))
(.take (iQ 112 (.mv (.t 9)))
(.take (iQ 113 (.mv (.t 112)))
(.take ⟨some 114, .p (.mv (.t 11)), some (113, true)⟩
(.take ⟨some 115, .pick (.t 113) (.t 114) (.c (.bool false)), none⟩
(.take (iQ 116 (.mv (.t 115)))
(.take ⟨some 117, .p (.mv (.t 13)), some (116, true)⟩
(.take ⟨some 118, .pick (.t 116) (.t 117) (.c (.bool false)), none⟩
(.take (iQ 119 (.mv (.t 118)))
(.take ⟨some 120, .p (.fieldA (.t 3) 1), some (119, true)⟩
(.take ⟨some 121, .p (.load (.t 120) 1 false), some (119, true)⟩
(.take ⟨some 122, .p (.sliceStr (.t 121) (some (.c (iV 32))) none), some (119, true)⟩
(.take ⟨some 123, .p (.bin .eql (.t 122) (.c (.str [113, 117, 101, 117, 101, 100]))), some (119, true)⟩
(.take ⟨some 124, .p (.mv (.t 123)), some (119, true)⟩
(.take ⟨some 125, .p (.fieldA (.t 3) 1), some (124, false)⟩
(.take ⟨some 126, .p (.load (.t 125) 1 false), some (124, false)⟩
(.take ⟨some 127, .p (.sliceStr (.t 126) (some (.c (iV 32))) none), some (124, false)⟩
(.take ⟨some 128, .p (.bin .eql (.t 127) (.c (.str [108, 105, 118, 101]))), some (124, false)⟩
(.take ⟨some 129, .pick (.t 124) (.c (.bool true)) (.t 128), some (119, true)⟩
(.take ⟨some 130, .pick (.t 119) (.t 129) (.c (.bool false)), none⟩
(.alt [⟨some 130, .pick (.t 119) (.t 129) (.c (.bool false)), none⟩, ⟨some 129, .pick (.t 124) (.c (.bool true)) (.t 128), some (119, true)⟩, ⟨some 128, .p (.bin .eql (.t 127) (.c (.str [108, 105, 118, 101]))), some (124, false)⟩, ⟨some 127, .p (.sliceStr (.t 126) (some (.c (iV 32))) none), some (124, false)⟩, ⟨some 126, .p (.load (.t 125) 1 false), some (124, false)⟩, ⟨some 125, .p (.fieldA (.t 3) 1), some (124, false)⟩] ⟨none, .store (.t 4) (.t 111) 6, none⟩
(.take (iQ 5 (.mv (.t 130)))
.fin)
.stop)))))))))))))))))))))
def c319_r11 : List Ins := [(iQ 132 (.fieldA (.t 3) 0)),
(iQ 133 (.load (.t 132) 1 false)),
⟨some 134, .p (.bin .eql (.t 133) (.c (.str [118, 97, 117, 108, 116]))), none⟩,
(iQ 135 (.mv (.t 134))),
⟨some 136, .p (.fieldA (.t 3) 1), some (135, true)⟩,
⟨some 137, .p (.load (.t 136) 1 false), some (135, true)⟩,
⟨some 138, .p (.lenS (.t 137)), some (135, true)⟩,
⟨some 139, .p (.bin .gtr (.t 138) (.c (iV 32))), some (135, true)⟩,
⟨some 140, .pick (.t 135) (.t 139) (.c (.bool false)), none⟩,
(iQ 131 (.mv (.t 140)))]
def c319_r12 : List Ins := [(iQ 142 (.fieldA (.t 3) 1)),
(iQ 143 (.load (.t 142) 1 false)),
⟨some 144, .p (.sliceStr (.t 143) none (some (.c (iV 16)))), none⟩,
⟨some 145, .call 361 [(.t 144)], none⟩,
(iQ 141 (.mv (.t 145))),
(iQ 146 (.ext (.t 141) 0)),
(iQ 147 (.ext (.t 141) 1)),
(iQ 14 (.mv (.t 146))),
(iQ 15 (.mv (.t 147)))]
def c319_r13 : List Ins := [(iQ 149 (.fieldA (.t 3) 1)),
(iQ 150 (.load (.t 149) 1 false)),
⟨some 151, .p (.sliceStr (.t 150) (some (.c (iV 16))) (some (.c (iV 32)))), none⟩,
⟨some 152, .call 361 [(.t 151)], none⟩,
(iQ 148 (.mv (.t 152))),
(iQ 153 (.ext (.t 148) 0)),
(iQ 154 (.ext (.t 148) 1)),
(iQ 16 (.mv (.t 153))),
(iQ 17 (.mv (.t 154)))]
def c319_r14 : List Ins := [(iQ 155 (.mv (.t 14))),
(iQ 156 (.fieldA (.t 2) 0)),
(iQ 157 (.fieldA (.t 156) 0)),
⟨none, .store (.t 157) (.t 155) 1, none⟩]
def c319_r15 : List Ins := [(iQ 158 (.mv (.t 16))),
(iQ 159 (.fieldA (.t 2) 0)),
(iQ 160 (.fieldA (.t 159) 1)),
⟨none, .store (.t 160) (.t 158) 1, none⟩]
def c319_r16 : List Ins := [(iQ 161 (.fieldA (.t 3) 1)),
(iQ 162 (.load (.t 161) 1 false)),
⟨some 163, .p (.sliceStr (.t 162) (some (.c (iV 32))) none), none⟩,
⟨some 164, .p (.bin .eql (.t 163) (.c (.str [115, 101, 97, 108, 101, 100]))), none⟩,
(iQ 165 (.fieldA (.t 2) 5)),
⟨none, .store (.t 165) (.t 164) 1, none⟩]
def c319_r17 : DP := (.take (iQ 166 (.load (.t 2) 6 true))
(.take (iQ 167 (.mv (.t 15)))
(.take (iQ 168 (.mv (.t 167)))
(.take ⟨some 169, .p (.mv (.t 17)), some (168, true)⟩
(.take ⟨some 170, .pick (.t 168) (.t 169) (.c (.bool false)), none⟩
(.take (iQ 171 (.mv (.t 170)))
(.take ⟨some 172, .p (.fieldA (.t 3) 1), some (171, true)⟩
(.take ⟨some 173, .p (.load (.t 172) 1 false), some (171, true)⟩
(.take ⟨some 174, .p (.sliceStr (.t 173) (some (.c (iV 32))) none), some (171, true)⟩
(.take ⟨some 175, .p (.bin .eql (.t 174) (.c (.str [115, 101, 97, 108, 101, 100]))), some (171, true)⟩
(.take ⟨some 176, .p (.mv (.t 175)), some (171, true)⟩
(.take ⟨some 177, .p (.fieldA (.t 3) 1), some (176, false)⟩
(.take ⟨some 178, .p (.load (.t 177) 1 false), some (176, false)⟩
(.take ⟨some 179, .p (.sliceStr (.t 178) (some (.c (iV 32))) none), some (176, false)⟩
(.take ⟨some 180, .p (.bin .eql (.t 179) (.c (.str [111, 112, 101, 110]))), some (176, false)⟩
(.take ⟨some 181, .pick (.t 176) (.c (.bool true)) (.t 180), some (171, true)⟩
(.take ⟨some 182, .pick (.t 171) (.t 181) (.c (.bool false)), none⟩
(.alt [⟨some 182, .pick (.t 171) (.t 181) (.c (.bool false)), none⟩, ⟨some 181, .pick (.t 176) (.c (.bool true)) (.t 180), some (171, true)⟩, ⟨some 180, .p (.bin .eql (.t 179) (.c (.str [111, 112, 101, 110]))), some (176, false)⟩, ⟨some 179, .p (.sliceStr (.t 178) (some (.c (iV 32))) none), some (176, false)⟩, ⟨some 178, .p (.load (.t 177) 1 false), some (176, false)⟩, ⟨some 177, .p (.fieldA (.t 3) 1), some (176, false)⟩] ⟨none, .store (.t 4) (.t 166) 6, none⟩
(.take (iQ 5 (.mv (.t 182)))
.fin)
.stop))))))))))))))))))
def c319_r18 : List Ins := [(iQ 183 (.load (.t 2) 6 true)),
⟨none, .store (.t 4) (.t 183) 6, none⟩,
⟨some 5, .p (.mv (.c (.bool false))), none⟩]
def c319 : XFn := { np := 2, nt := 184, res := [.cell 4 6 true, .t 5], body := (.seq (.reg c319_r0) (.seq (.block 0 (.seq (.reg c319_r1) (.ite (.t 18) (.seq (.reg c319_r2) (.seq (.reg c319_r3) (.seq (.draw c319_r4) .ret))) (.seq (.reg c319_r5) (.ite (.t 58) (.seq (.reg c319_r6) (.seq (.reg c319_r7) (.seq (.reg c319_r8) (.seq (.draw c319_r9) (.seq (.draw c319_r10) .ret))))) (.seq (.reg c319_r11) (.ite (.t 131) (.seq (.reg c319_r12) (.seq (.reg c319_r13) (.seq (.reg c319_r14) (.seq (.reg c319_r15) (.seq (.reg c319_r16) (.seq (.draw c319_r17) .ret)))))) .skip))))))) (.seq (.reg c319_r18) .ret))) }
def K319 (C : CRel) : Prop := ∀ (a0 : DVault) (a1 : DPair) (r : DVault × Bool), g319 a0 a1 = some r → C 319 ⟨[.agg [iV a0.table.clock, iV a0.table.next, .own 1024000 0 4 (a0.table.list_.map eDLease), .own 1024001 0 2 (a0.intents.map eDIntent), .lst 1 (a0.accounts.map eI), .bool a0.sealed], .agg (eDPair a1)], []⟩ ⟨.tup [.agg [iV r.1.table.clock, iV r.1.table.next, .own 0 0 4 (r.1.table.list_.map eDLease), .own 1 0 2 (r.1.intents.map eDIntent), .lst 1 (r.1.accounts.map eI), .bool r.1.sealed], .bool r.2], [], []⟩
theorem F319 {C : CRel} (H361 : K361 C) (a0 : DVault) (a1 : DPair) (r : DVault × Bool) (h0 : g319 a0 a1 = some r) : FnOK C c319 ⟨[.agg [iV a0.table.clock, iV a0.table.next, .own 1024000 0 4 (a0.table.list_.map eDLease), .own 1024001 0 2 (a0.intents.map eDIntent), .lst 1 (a0.accounts.map eI), .bool a0.sealed], .agg (eDPair a1)], []⟩ ⟨.tup [.agg [iV r.1.table.clock, iV r.1.table.next, .own 0 0 4 (r.1.table.list_.map eDLease), .own 1 0 2 (r.1.intents.map eDIntent), .lst 1 (r.1.accounts.map eI), .bool r.1.sealed], .bool r.2], [], []⟩ := by
 refine fn_ (nl rfl) (seq_ (reg_ (st (box_ rfl tv rfl (st (box_ rfl tv rfl (st (alloc_ (st (mvc_ tv (oe_ (wk_ ⟨[(2, .ptr 128 0), (3, .ptr 192 0), (4, .ptr 256 0)], [(128, [iV a0.table.clock, iV a0.table.next, .own 1024000 0 4 (a0.table.list_.map eDLease), .own 1024001 0 2 (a0.intents.map eDIntent), .lst 1 (a0.accounts.map eI), .bool a0.sealed]), (192, [.str a1.key, .str a1.value]), (256, [iV 0, iV 0, .own 259 0 4 (([] : List DLease).map eDLease), .own 260 0 2 (([] : List DIntent).map eDIntent), .own 261 0 1 (([] : List Int).map eI), .bool false])], []⟩ (fgk (by kernel_rfl)) (seq_ (block_ (seq_ (reg_ (st (c_ (cp_ ⟨tv, tv⟩ rfl tv) (st (c_ (cp_ ⟨tv, tv⟩ rfl (nl rfl)) (st (c_ (cp_ ⟨tv, tv⟩ rfl tv) (st (c_ (cp_ t3 rfl tv) (st (mv_ rfl tv (st (pg_ (u := .ptr 192 0) rfl (fun hg => (cp_ ⟨tv, tv⟩ rfl tv)) (st (pg_ (u := .str a1.key) rfl (fun hg => (cp_ ⟨(fun _ => hg), tv⟩ rfl (nl rfl))) ?_))))))))))))))))))))))))))))))
 obtain ⟨s1, e2, h0⟩ := bnd h0
 refine st (pg_ (u := .str s1) rfl (fun hg => (csliceS (y := s1) rfl rfl (fun _ => hg) ⟨tv, tv⟩ rfl rfl (ip hg e2))) (st (pg_ (u := .bool (s1 == ([105, 110, 116, 101, 110, 116, 47] : List UInt8))) rfl (fun hg => (cp_ ⟨(fun _ => hg), tv, tv⟩ rfl tv)) (st (pick_ rfl rfl rfl (fun h => eqt h) tv rfl (st (mv_ rfl tv (oe_ ?_))))))))
 obtain ⟨v3, e4, h0⟩ := bl h0
 refine wk_ ⟨[(2, .ptr 128 0), (3, .ptr 192 0), (4, .ptr 256 0), (18, .bool v3)], [(128, [iV a0.table.clock, iV a0.table.next, .own 1024000 0 4 (a0.table.list_.map eDLease), .own 1024001 0 2 (a0.intents.map eDIntent), .lst 1 (a0.accounts.map eI), .bool a0.sealed]), (192, [.str a1.key, .str a1.value]), (256, [iV 0, iV 0, .own 259 0 4 (([] : List DLease).map eDLease), .own 260 0 2 (([] : List DIntent).map eDIntent), .own 261 0 1 (([] : List Int).map eI), .bool false])], []⟩ (fgk (by subst e4; kernel_rfl)) (ite_ (cb := v3) rfl (fun c5 => ?_) (fun c5 => ?_))
 ·replace h0 := ip c5 h0
  refine seq_ (reg_ (st (c_ (cp_ ⟨tv, tv⟩ rfl tv) (st (c_ (cp_ ⟨tv, tv⟩ rfl (nl rfl)) ?_)))))
  obtain ⟨s6, e7, h0⟩ := bnd h0
  refine st (c_ (csliceS (y := s6) rfl rfl tv ⟨tv, tv⟩ rfl rfl e7) ?_)
  obtain ⟨r8, e9, h0⟩ := bnd h0
  refine st (call0_ (r := .tup [iV r8.1, .bool r8.2]) false (H361 s6 r8 e9) ⟨tv, tv⟩ rfl rfl (fun _ => rfl) (st (mv_ rfl tv (st (c_ (cp_ ⟨tv, tv⟩ rfl tv) (st (c_ (cp_ ⟨tv, tv⟩ rfl tv) (st (mv_ rfl tv (st (mv_ rfl tv (oe_ (wk_ ⟨[(2, .ptr 128 0), (3, .ptr 192 0), (4, .ptr 256 0), (6, iV r8.1), (7, .bool r8.2)], [(128, [iV a0.table.clock, iV a0.table.next, .own 1024000 0 4 (a0.table.list_.map eDLease), .own 1024001 0 2 (a0.intents.map eDIntent), .lst 1 (a0.accounts.map eI), .bool a0.sealed]), (192, [.str a1.key, .str a1.value]), (256, [iV 0, iV 0, .own 259 0 4 (([] : List DLease).map eDLease), .own 260 0 2 (([] : List DIntent).map eDIntent), .own 261 0 1 (([] : List Int).map eI), .bool false])], []⟩ (fgk (by kernel_rfl)) (seq_ (reg_ (st (c_ (cp_ ⟨tv, tv⟩ rfl tv) (st (c_ (cp_ ⟨tv, tv⟩ rfl (nl rfl)) (st (mv_ rfl tv (st (c_ (cp_ ⟨tv, tv⟩ rfl tv) (st (c_ (cp_ ⟨tv, tv⟩ rfl (nl rfl)) (st (c_ (cp_ t3 rfl tv) (st (c_ (v := .agg [iV r8.1, .bool (a1.value == ([117, 110, 100, 111] : List UInt8))]) (cp_ ⟨tv, tv, tv⟩ rfl ⟨⟨rfl, rfl, nl rfl⟩, ⟨rfl, rfl, nl rfl⟩, tv⟩) (st (mkS_ ⟨tv, tv⟩ ⟨⟨nl rfl, rfl, rfl⟩, tv⟩ ?_)))))))))))))))))))))))))))))))
  obtain ⟨c10, h0⟩ := grd h0
  refine st (app_ (e := eDIntent) (l0 := a0.intents) (l1 := ([(DIntent.mk r8.1 (a1.value == ([117, 110, 100, 111] : List UInt8)))] : List DIntent)) rfl rfl tv rfl (by decide) c10 (st (c_ (cp_ ⟨tv, tv⟩ rfl tv) (st (stp_ rfl rfl tv rfl rfl rfl (nl rfl) (oe_ ?_))))))
  obtain ⟨v11, e12, h0⟩ := bl h0
  refine wk_ ⟨[(2, .ptr 128 0), (3, .ptr 192 0), (4, .ptr 256 0), (7, .bool r8.2)], [(128, [iV a0.table.clock, iV a0.table.next, .own 1024000 0 4 (a0.table.list_.map eDLease), .own 1024001 0 2 (v11.map eDIntent), .lst 1 (a0.accounts.map eI), .bool a0.sealed]), (192, [.str a1.key, .str a1.value]), (256, [iV 0, iV 0, .own 259 0 4 (([] : List DLease).map eDLease), .own 260 0 2 (([] : List DIntent).map eDIntent), .own 261 0 1 (([] : List Int).map eI), .bool false])], []⟩ (fgk (by subst e12; kernel_rfl)) (seq_ (draw_ (dtake tv (c_ (v := .agg [iV a0.table.clock, iV a0.table.next, .own 1024000 0 4 (a0.table.list_.map eDLease), .own 1024001 0 2 (v11.map eDIntent), .lst 1 (a0.accounts.map eI), .bool a0.sealed]) (cp_ ⟨tv, tv⟩ rfl (nl rfl)) (⟨tv, (dtake tv (mv_ rfl tv (⟨tv, (dtake tv (mv_ rfl tv (⟨tv, (dtake tv (pg_ (u := .ptr 192 1) rfl (fun hg => (cp_ ⟨tv, tv⟩ rfl tv)) (⟨tv, (dtake tv (pg_ (u := .str a1.value) rfl (fun hg => (cp_ ⟨(fun _ => hg), tv⟩ rfl (nl rfl))) (⟨tv, (dtake tv (pg_ (u := .bool (a1.value == ([117, 110, 100, 111] : List UInt8))) rfl (fun hg => (cp_ ⟨(fun _ => hg), tv, tv⟩ rfl tv)) (⟨tv, (dtake tv (pg_ (u := .bool (a1.value == ([117, 110, 100, 111] : List UInt8))) rfl (fun hg => (cmv (v := .may (r8.2 == true) (.bool (a1.value == ([117, 110, 100, 111] : List UInt8)))) rfl (fun _ => hg))) (⟨tv, (dtake tv (pg_ (u := .ptr 192 1) rfl (fun hg => (cp_ ⟨tv, tv⟩ rfl tv)) (⟨tv, (dtake tv (pg_ (u := .str a1.value) rfl (fun hg => (cp_ ⟨(fun _ => hg), tv⟩ rfl (nl rfl))) (⟨tv, (dtake tv (pg_ (u := .bool (a1.value == ([98, 101, 103, 117, 110] : List UInt8))) rfl (fun hg => (cp_ ⟨(fun _ => hg), tv, tv⟩ rfl tv)) (⟨tv, (dtake tv (pickg_ (u := .bool (bif (a1.value == ([117, 110, 100, 111] : List UInt8)) then true else (a1.value == ([98, 101, 103, 117, 110] : List UInt8)))) rfl (fun hg => cpick rfl rfl (fun _ => hg) rfl rfl tv (fun h => and_ hg (eqf h)) rfl) (⟨tv, (dtake tv (pick_ rfl rfl rfl (fun h => eqt h) tv rfl (⟨tv, (dalt (stp_ rfl rfl tv rfl rfl rfl (nl rfl) (dkw ⟨[(3, .ptr 192 0), (4, .ptr 256 0), (48, .bool r8.2), (52, .may (r8.2 == true) (.bool (a1.value == ([117, 110, 100, 111] : List UInt8)))), (53, .may ((r8.2 == true) && ((a1.value == ([117, 110, 100, 111] : List UInt8)) == false)) (.ptr 192 1)), (54, .may ((r8.2 == true) && ((a1.value == ([117, 110, 100, 111] : List UInt8)) == false)) (.str a1.value)), (55, .may ((r8.2 == true) && ((a1.value == ([117, 110, 100, 111] : List UInt8)) == false)) (.bool (a1.value == ([98, 101, 103, 117, 110] : List UInt8)))), (56, .may (r8.2 == true) (.bool (bif (a1.value == ([117, 110, 100, 111] : List UInt8)) then true else (a1.value == ([98, 101, 103, 117, 110] : List UInt8))))), (57, .bool (bif r8.2 then (bif (a1.value == ([117, 110, 100, 111] : List UInt8)) then true else (a1.value == ([98, 101, 103, 117, 110] : List UInt8))) else false))], [(192, [.str a1.key, .str a1.value]), (256, [iV a0.table.clock, iV a0.table.next, .own 1024000 0 4 (a0.table.list_.map eDLease), .own 1024001 0 2 (v11.map eDIntent), .lst 1 (a0.accounts.map eI), .bool a0.sealed])], []⟩ (fgk (by kernel_rfl)) ⟨[], ⟨⟨.inl tv, (againp (cpick rfl rfl tv rfl rfl (fun h => eqt h) tv rfl) rfl)⟩, ⟨.inl tv, (againpg (v := .bool (bif (a1.value == ([117, 110, 100, 111] : List UInt8)) then true else (a1.value == ([98, 101, 103, 117, 110] : List UInt8)))) rfl (fun hg => cpick rfl rfl (fun _ => hg) rfl rfl tv (fun h => and_ hg (eqf h)) rfl) rfl)⟩, ⟨.inl tv, (againg (v := .bool (a1.value == ([98, 101, 103, 117, 110] : List UInt8))) rfl (fun hg => (cp_ ⟨(fun _ => hg), tv, tv⟩ rfl tv)) rfl)⟩, ⟨.inl tv, (againg (v := .str a1.value) rfl (fun hg => (cp_ ⟨(fun _ => hg), tv⟩ rfl (nl rfl))) rfl)⟩, ⟨.inl tv, (againg (v := .ptr 192 1) rfl (fun hg => (cp_ ⟨tv, tv⟩ rfl tv)) rfl)⟩, tv⟩, tv, (dtake tv (mv_ rfl tv (⟨tv, ?_⟩)))⟩)) dstop)⟩)))⟩)))⟩)))⟩)))⟩)))⟩)))⟩)))⟩)))⟩)))⟩)))⟩)))⟩)))))
  refine dfin ?_
  obtain ⟨v13, e14, h0⟩ := bl h0
  refine wk_ ⟨[(4, .ptr 256 0), (5, .bool v13)], [(256, [iV a0.table.clock, iV a0.table.next, .own 1024000 0 4 (a0.table.list_.map eDLease), .own 1024001 0 2 (v11.map eDIntent), .lst 1 (a0.accounts.map eI), .bool a0.sealed])], []⟩ (fgk (by subst e14; kernel_rfl)) ?_
  obtain rfl := Option.some.inj h0
  exact rt_ (ret_ rfl rfl rfl rfl rfl tv)
 ·replace h0 := inb c5 h0
  refine seq_ (reg_ (st (c_ (cp_ ⟨tv, tv⟩ rfl tv) (st (c_ (cp_ ⟨tv, tv⟩ rfl (nl rfl)) (st (c_ (cp_ ⟨tv, tv⟩ rfl tv) (st (c_ (cp_ t3 rfl tv) (st (mv_ rfl tv (st (pg_ (u := .ptr 192 0) rfl (fun hg => (cp_ ⟨tv, tv⟩ rfl tv)) (st (pg_ (u := .str a1.key) rfl (fun hg => (cp_ ⟨(fun _ => hg), tv⟩ rfl (nl rfl))) ?_)))))))))))))))
  obtain ⟨s15, e16, h0⟩ := bnd h0
  refine st (pg_ (u := .str s15) rfl (fun hg => (csliceS (y := s15) rfl rfl (fun _ => hg) ⟨tv, tv⟩ rfl rfl (ip hg e16))) (st (pg_ (u := .bool (s15 == ([108, 101, 97, 115, 101, 47] : List UInt8))) rfl (fun hg => (cp_ ⟨(fun _ => hg), tv, tv⟩ rfl tv)) (st (pick_ rfl rfl rfl (fun h => eqt h) tv rfl (st (mv_ rfl tv (st (pg_ (u := .ptr 192 1) rfl (fun hg => (cp_ ⟨tv, tv⟩ rfl tv)) (st (pg_ (u := .str a1.value) rfl (fun hg => (cp_ ⟨(fun _ => hg), tv⟩ rfl (nl rfl))) (st (pg_ (u := iV (a1.value.length : Int)) rfl (fun hg => (cp_ ⟨(fun _ => hg), tv⟩ rfl tv)) (st (pg_ (u := .bool (decide ((a1.value.length : Int) > 32))) rfl (fun hg => (cp_ ⟨(fun _ => hg), tv, tv⟩ rfl tv)) (sw ⟨[(2, .ptr 128 0), (3, .ptr 192 0), (4, .ptr 256 0), (69, .bool (bif ((a1.key.length : Int) == 22) then (s15 == ([108, 101, 97, 115, 101, 47] : List UInt8)) else false)), (73, .may ((bif ((a1.key.length : Int) == 22) then (s15 == ([108, 101, 97, 115, 101, 47] : List UInt8)) else false) == true) (.bool (decide ((a1.value.length : Int) > 32))))], [(128, [iV a0.table.clock, iV a0.table.next, .own 1024000 0 4 (a0.table.list_.map eDLease), .own 1024001 0 2 (a0.intents.map eDIntent), .lst 1 (a0.accounts.map eI), .bool a0.sealed]), (192, [.str a1.key, .str a1.value]), (256, [iV 0, iV 0, .own 259 0 4 (([] : List DLease).map eDLease), .own 260 0 2 (([] : List DIntent).map eDIntent), .own 261 0 1 (([] : List Int).map eI), .bool false])], []⟩ (fgk (by kernel_rfl)) (pick_ rfl rfl rfl (fun h => eqt h) tv rfl (st (mv_ rfl tv (oe_ ?_))))))))))))))))))))
  obtain ⟨v17, e18, h0⟩ := bl h0
  refine wk_ ⟨[(2, .ptr 128 0), (3, .ptr 192 0), (4, .ptr 256 0), (58, .bool v17)], [(128, [iV a0.table.clock, iV a0.table.next, .own 1024000 0 4 (a0.table.list_.map eDLease), .own 1024001 0 2 (a0.intents.map eDIntent), .lst 1 (a0.accounts.map eI), .bool a0.sealed]), (192, [.str a1.key, .str a1.value]), (256, [iV 0, iV 0, .own 259 0 4 (([] : List DLease).map eDLease), .own 260 0 2 (([] : List DIntent).map eDIntent), .own 261 0 1 (([] : List Int).map eI), .bool false])], []⟩ (fgk (by subst e18; kernel_rfl)) (ite_ (cb := v17) rfl (fun c19 => ?_) (fun c19 => ?_))
  ·replace h0 := ip c19 h0
   refine seq_ (reg_ (st (c_ (cp_ ⟨tv, tv⟩ rfl tv) (st (c_ (cp_ ⟨tv, tv⟩ rfl (nl rfl)) ?_)))))
   obtain ⟨s20, e21, h0⟩ := bnd h0
   refine st (c_ (csliceS (y := s20) rfl rfl tv ⟨tv, tv⟩ rfl rfl e21) ?_)
   obtain ⟨r22, e23, h0⟩ := bnd h0
   refine st (call0_ (r := .tup [iV r22.1, .bool r22.2]) false (H361 s20 r22 e23) ⟨tv, tv⟩ rfl rfl (fun _ => rfl) (st (mv_ rfl tv (st (c_ (cp_ ⟨tv, tv⟩ rfl tv) (st (c_ (cp_ ⟨tv, tv⟩ rfl tv) (st (mv_ rfl tv (st (mv_ rfl tv (oe_ (wk_ ⟨[(2, .ptr 128 0), (3, .ptr 192 0), (4, .ptr 256 0), (8, iV r22.1), (9, .bool r22.2)], [(128, [iV a0.table.clock, iV a0.table.next, .own 1024000 0 4 (a0.table.list_.map eDLease), .own 1024001 0 2 (a0.intents.map eDIntent), .lst 1 (a0.accounts.map eI), .bool a0.sealed]), (192, [.str a1.key, .str a1.value]), (256, [iV 0, iV 0, .own 259 0 4 (([] : List DLease).map eDLease), .own 260 0 2 (([] : List DIntent).map eDIntent), .own 261 0 1 (([] : List Int).map eI), .bool false])], []⟩ (fgk (by kernel_rfl)) (seq_ (reg_ (st (c_ (cp_ ⟨tv, tv⟩ rfl tv) (st (c_ (cp_ ⟨tv, tv⟩ rfl (nl rfl)) ?_)))))))))))))))))))
   obtain ⟨s24, e25, h0⟩ := bnd h0
   refine st (c_ (csliceS (y := s24) rfl rfl tv ⟨tv, tv⟩ rfl rfl e25) ?_)
   obtain ⟨r26, e27, h0⟩ := bnd h0
   refine st (call0_ (r := .tup [iV r26.1, .bool r26.2]) false (H361 s24 r26 e27) ⟨tv, tv⟩ rfl rfl (fun _ => rfl) (st (mv_ rfl tv (st (c_ (cp_ ⟨tv, tv⟩ rfl tv) (st (c_ (cp_ ⟨tv, tv⟩ rfl tv) (st (mv_ rfl tv (st (mv_ rfl tv (oe_ (wk_ ⟨[(2, .ptr 128 0), (3, .ptr 192 0), (4, .ptr 256 0), (8, iV r22.1), (9, .bool r22.2), (10, iV r26.1), (11, .bool r26.2)], [(128, [iV a0.table.clock, iV a0.table.next, .own 1024000 0 4 (a0.table.list_.map eDLease), .own 1024001 0 2 (a0.intents.map eDIntent), .lst 1 (a0.accounts.map eI), .bool a0.sealed]), (192, [.str a1.key, .str a1.value]), (256, [iV 0, iV 0, .own 259 0 4 (([] : List DLease).map eDLease), .own 260 0 2 (([] : List DIntent).map eDIntent), .own 261 0 1 (([] : List Int).map eI), .bool false])], []⟩ (fgk (by kernel_rfl)) (seq_ (reg_ (st (c_ (cp_ ⟨tv, tv⟩ rfl tv) (st (c_ (cp_ ⟨tv, tv⟩ rfl (nl rfl)) ?_)))))))))))))))))))
   obtain ⟨s28, e29, h0⟩ := bnd h0
   refine st (c_ (csliceS (y := s28) rfl rfl tv ⟨tv, tv, tv⟩ rfl rfl e29) ?_)
   obtain ⟨r30, e31, h0⟩ := bnd h0
   refine st (call0_ (r := .tup [iV r30.1, .bool r30.2]) false (H361 s28 r30 e31) ⟨tv, tv⟩ rfl rfl (fun _ => rfl) (st (mv_ rfl tv (st (c_ (cp_ ⟨tv, tv⟩ rfl tv) (st (c_ (cp_ ⟨tv, tv⟩ rfl tv) (st (mv_ rfl tv (st (mv_ rfl tv (oe_ (wk_ ⟨[(2, .ptr 128 0), (3, .ptr 192 0), (4, .ptr 256 0), (8, iV r22.1), (9, .bool r22.2), (10, iV r26.1), (11, .bool r26.2), (12, iV r30.1), (13, .bool r30.2)], [(128, [iV a0.table.clock, iV a0.table.next, .own 1024000 0 4 (a0.table.list_.map eDLease), .own 1024001 0 2 (a0.intents.map eDIntent), .lst 1 (a0.accounts.map eI), .bool a0.sealed]), (192, [.str a1.key, .str a1.value]), (256, [iV 0, iV 0, .own 259 0 4 (([] : List DLease).map eDLease), .own 260 0 2 (([] : List DIntent).map eDIntent), .own 261 0 1 (([] : List Int).map eI), .bool false])], []⟩ (fgk (by kernel_rfl)) (seq_ ?_))))))))))))))
   obtain ⟨s32, e33, h0⟩ := bnd h0
   obtain ⟨c34, h0⟩ := grd h0
   refine draw_ (dtake tv (c_ (cp_ ⟨tv, tv⟩ rfl tv) (⟨tv, (dtake tv (c_ (cp_ ⟨tv, tv⟩ rfl tv) (⟨tv, (dtake tv (c_ (cp_ ⟨tv, tv⟩ rfl (nl rfl)) (⟨tv, (dtake tv (mv_ rfl tv (⟨tv, (dtake tv (mv_ rfl tv (⟨tv, (dtake tv (mv_ rfl tv (⟨tv, (dtake tv (c_ (cp_ ⟨tv, tv⟩ rfl tv) (⟨tv, (dtake tv (c_ (cp_ ⟨tv, tv⟩ rfl (nl rfl)) (⟨tv, (dtake tv (c_ (csliceS (y := s32) rfl rfl tv ⟨tv, tv⟩ rfl rfl e33) (⟨tv, (dtake tv (c_ (cp_ t3 rfl tv) (⟨tv, (dtake tv (c_ (v := .agg [iV r22.1, iV r26.1, iV r30.1, .bool (s32 == ([113, 117, 101, 117, 101, 100] : List UInt8))]) (cp_ ⟨tv, tv, tv, tv, tv⟩ rfl ⟨⟨rfl, rfl, nl rfl⟩, ⟨rfl, rfl, nl rfl⟩, ⟨rfl, rfl, nl rfl⟩, ⟨rfl, rfl, nl rfl⟩, tv⟩) (⟨tv, (dalt (mkS_ ⟨tv, tv⟩ ⟨⟨nl rfl, rfl, rfl⟩, tv⟩ (dk0 ⟨[], ⟨⟨.inl tv, (again1 (cp_ ⟨tv, tv⟩ rfl (nl rfl)) rfl)⟩, ⟨.inl tv, (again1 (cp_ ⟨tv, tv⟩ rfl tv) rfl)⟩, ⟨.inl tv, (again1 (cp_ ⟨tv, tv⟩ rfl tv) rfl)⟩, tv⟩, tv, (dalt (app_ (e := eDLease) (l0 := a0.table.list_) (l1 := ([(DLease.mk r22.1 r26.1 r30.1 (s32 == ([113, 117, 101, 117, 101, 100] : List UInt8)))] : List DLease)) rfl rfl tv rfl (by decide) c34 (dkw ⟨[(2, .ptr 128 0), (3, .ptr 192 0), (4, .ptr 256 0), (9, .bool r22.2), (11, .bool r26.2), (13, .bool r30.2), (108, .own 1024000 0 4 ((a0.table.list_ ++ ([(DLease.mk r22.1 r26.1 r30.1 (s32 == ([113, 117, 101, 117, 101, 100] : List UInt8)))] : List DLease)).map eDLease))], [(128, [iV a0.table.clock, iV a0.table.next, .undef, .own 1024001 0 2 (a0.intents.map eDIntent), .lst 1 (a0.accounts.map eI), .bool a0.sealed]), (192, [.str a1.key, .str a1.value]), (256, [iV 0, iV 0, .own 259 0 4 (([] : List DLease).map eDLease), .own 260 0 2 (([] : List DIntent).map eDIntent), .own 261 0 1 (([] : List Int).map eI), .bool false])], []⟩ (fgk (by kernel_rfl)) ⟨[], tv, tv, (dtake tv (c_ (cp_ ⟨tv, tv⟩ rfl tv) (⟨tv, (dtake tv (c_ (cp_ ⟨tv, tv⟩ rfl tv) (⟨tv, ?_⟩)))⟩)))⟩)) dstop)⟩)) dstop)⟩)))⟩)))⟩)))⟩)))⟩)))⟩)))⟩)))⟩)))⟩)))⟩)))⟩)))
   refine dalt (stp_ rfl rfl tv rfl rfl rfl (nl rfl) (dk0 ⟨[], tv, tv, (dfin ?_)⟩)) dstop
   obtain ⟨v35, e36, h0⟩ := bl h0
   refine wk_ ⟨[(2, .ptr 128 0), (3, .ptr 192 0), (4, .ptr 256 0), (9, .bool r22.2), (11, .bool r26.2), (13, .bool r30.2)], [(128, [iV a0.table.clock, iV a0.table.next, .own 1024000 0 4 (v35.map eDLease), .own 1024001 0 2 (a0.intents.map eDIntent), .lst 1 (a0.accounts.map eI), .bool a0.sealed]), (192, [.str a1.key, .str a1.value]), (256, [iV 0, iV 0, .own 259 0 4 (([] : List DLease).map eDLease), .own 260 0 2 (([] : List DIntent).map eDIntent), .own 261 0 1 (([] : List Int).map eI), .bool false])], []⟩ (fgk (by subst e36; kernel_rfl)) (seq_ ?_)
   obtain ⟨s37, e38, h0⟩ := bnd h0
   obtain ⟨s39, e40, h0⟩ := bnd h0
   refine draw_ (dtake tv (c_ (v := .agg [iV a0.table.clock, iV a0.table.next, .own 1024000 0 4 (v35.map eDLease), .own 1024001 0 2 (a0.intents.map eDIntent), .lst 1 (a0.accounts.map eI), .bool a0.sealed]) (cp_ ⟨tv, tv⟩ rfl (nl rfl)) (⟨tv, (dtake tv (mv_ rfl tv (⟨tv, (dtake tv (mv_ rfl tv (⟨tv, (dtake tv (pg_ (u := .bool r26.2) rfl (fun hg => (cmv (v := .bool r26.2) rfl tv)) (⟨tv, (dtake tv (pick_ rfl rfl rfl (fun h => eqt h) tv rfl (⟨tv, (dtake tv (mv_ rfl tv (⟨tv, (dtake tv (pg_ (u := .bool r30.2) rfl (fun hg => (cmv (v := .bool r30.2) rfl tv)) (⟨tv, (dtake tv (pick_ rfl rfl rfl (fun h => eqt h) tv rfl (⟨tv, (dtake tv (mv_ rfl tv (⟨tv, (dtake tv (pg_ (u := .ptr 192 1) rfl (fun hg => (cp_ ⟨tv, tv⟩ rfl tv)) (⟨tv, (dtake tv (pg_ (u := .str a1.value) rfl (fun hg => (cp_ ⟨(fun _ => hg), tv⟩ rfl (nl rfl))) (⟨tv, (dtake tv (pg_ (u := .str s37) rfl (fun hg => (csliceS (y := s37) rfl rfl (fun _ => hg) ⟨tv, tv⟩ rfl rfl (ip hg e38))) (⟨tv, (dtake tv (pg_ (u := .bool (s37 == ([113, 117, 101, 117, 101, 100] : List UInt8))) rfl (fun hg => (cp_ ⟨(fun _ => hg), tv, tv⟩ rfl tv)) (⟨tv, (dtake tv (pg_ (u := .bool (s37 == ([113, 117, 101, 117, 101, 100] : List UInt8))) rfl (fun hg => (cmv (v := .may ((bif (bif r22.2 then r26.2 else false) then r30.2 else false) == true) (.bool (s37 == ([113, 117, 101, 117, 101, 100] : List UInt8)))) rfl (fun _ => hg))) (⟨tv, (dtake tv (pg_ (u := .ptr 192 1) rfl (fun hg => (cp_ ⟨tv, tv⟩ rfl tv)) (⟨tv, ?_⟩)))⟩)))⟩)))⟩)))⟩)))⟩)))⟩)))⟩)))⟩)))⟩)))⟩)))⟩)))⟩)))⟩)))⟩)))
   refine dtake tv (pg_ (u := .str a1.value) rfl (fun hg => (cp_ ⟨(fun _ => hg), tv⟩ rfl (nl rfl))) (⟨tv, (dtake tv (pg_ (u := .str s39) rfl (fun hg => (csliceS (y := s39) rfl rfl (fun _ => hg) ⟨tv, tv⟩ rfl rfl (ip hg e40))) (⟨tv, (dtake tv (pg_ (u := .bool (s39 == ([108, 105, 118, 101] : List UInt8))) rfl (fun hg => (cp_ ⟨(fun _ => hg), tv, tv⟩ rfl tv)) (⟨tv, (dtake tv (pickg_ (u := .bool (bif (s37 == ([113, 117, 101, 117, 101, 100] : List UInt8)) then true else (s39 == ([108, 105, 118, 101] : List UInt8)))) rfl (fun hg => cpick rfl rfl (fun _ => hg) rfl rfl tv (fun h => and_ hg (eqf h)) rfl) (⟨tv, (dtake tv (pick_ rfl rfl rfl (fun h => eqt h) tv rfl (⟨tv, (dalt (stp_ rfl rfl tv rfl rfl rfl (nl rfl) (dkw ⟨[(3, .ptr 192 0), (4, .ptr 256 0), (119, .bool (bif (bif r22.2 then r26.2 else false) then r30.2 else false)), (124, .may ((bif (bif r22.2 then r26.2 else false) then r30.2 else false) == true) (.bool (s37 == ([113, 117, 101, 117, 101, 100] : List UInt8)))), (125, .may (((bif (bif r22.2 then r26.2 else false) then r30.2 else false) == true) && ((s37 == ([113, 117, 101, 117, 101, 100] : List UInt8)) == false)) (.ptr 192 1)), (126, .may (((bif (bif r22.2 then r26.2 else false) then r30.2 else false) == true) && ((s37 == ([113, 117, 101, 117, 101, 100] : List UInt8)) == false)) (.str a1.value)), (127, .may (((bif (bif r22.2 then r26.2 else false) then r30.2 else false) == true) && ((s37 == ([113, 117, 101, 117, 101, 100] : List UInt8)) == false)) (.str s39)), (128, .may (((bif (bif r22.2 then r26.2 else false) then r30.2 else false) == true) && ((s37 == ([113, 117, 101, 117, 101, 100] : List UInt8)) == false)) (.bool (s39 == ([108, 105, 118, 101] : List UInt8)))), (129, .may ((bif (bif r22.2 then r26.2 else false) then r30.2 else false) == true) (.bool (bif (s37 == ([113, 117, 101, 117, 101, 100] : List UInt8)) then true else (s39 == ([108, 105, 118, 101] : List UInt8))))), (130, .bool (bif (bif (bif r22.2 then r26.2 else false) then r30.2 else false) then (bif (s37 == ([113, 117, 101, 117, 101, 100] : List UInt8)) then true else (s39 == ([108, 105, 118, 101] : List UInt8))) else false))], [(192, [.str a1.key, .str a1.value]), (256, [iV a0.table.clock, iV a0.table.next, .own 1024000 0 4 (v35.map eDLease), .own 1024001 0 2 (a0.intents.map eDIntent), .lst 1 (a0.accounts.map eI), .bool a0.sealed])], []⟩ (fgk (by kernel_rfl)) ⟨[], ⟨⟨.inl tv, (againp (cpick rfl rfl tv rfl rfl (fun h => eqt h) tv rfl) rfl)⟩, ⟨.inl tv, (againpg (v := .bool (bif (s37 == ([113, 117, 101, 117, 101, 100] : List UInt8)) then true else (s39 == ([108, 105, 118, 101] : List UInt8)))) rfl (fun hg => cpick rfl rfl (fun _ => hg) rfl rfl tv (fun h => and_ hg (eqf h)) rfl) rfl)⟩, ⟨.inl tv, (againg (v := .bool (s39 == ([108, 105, 118, 101] : List UInt8))) rfl (fun hg => (cp_ ⟨(fun _ => hg), tv, tv⟩ rfl tv)) rfl)⟩, ⟨.inl tv, (againg (v := .str s39) rfl (fun hg => (csliceS (y := s39) rfl rfl (fun _ => hg) ⟨tv, tv⟩ rfl rfl (ip hg e40))) rfl)⟩, ⟨.inl tv, (againg (v := .str a1.value) rfl (fun hg => (cp_ ⟨(fun _ => hg), tv⟩ rfl (nl rfl))) rfl)⟩, ⟨.inl tv, (againg (v := .ptr 192 1) rfl (fun hg => (cp_ ⟨tv, tv⟩ rfl tv)) rfl)⟩, tv⟩, tv, (dtake tv (mv_ rfl tv (⟨tv, (dfin ?_)⟩)))⟩)) dstop)⟩)))⟩)))⟩)))⟩)))⟩))
   obtain ⟨v41, e42, h0⟩ := bl h0
   refine wk_ ⟨[(4, .ptr 256 0), (5, .bool v41)], [(256, [iV a0.table.clock, iV a0.table.next, .own 1024000 0 4 (v35.map eDLease), .own 1024001 0 2 (a0.intents.map eDIntent), .lst 1 (a0.accounts.map eI), .bool a0.sealed])], []⟩ (fgk (by subst e42; kernel_rfl)) ?_
   obtain rfl := Option.some.inj h0
   exact rt_ (ret_ rfl rfl rfl rfl rfl tv)
  ·replace h0 := inb c19 h0
   refine seq_ (reg_ (st (c_ (cp_ ⟨tv, tv⟩ rfl tv) (st (c_ (cp_ ⟨tv, tv⟩ rfl (nl rfl)) (st (c_ (cp_ t3 rfl tv) (st (mv_ rfl tv (st (pg_ (u := .ptr 192 1) rfl (fun hg => (cp_ ⟨tv, tv⟩ rfl tv)) (st (pg_ (u := .str a1.value) rfl (fun hg => (cp_ ⟨(fun _ => hg), tv⟩ rfl (nl rfl))) (st (pg_ (u := iV (a1.value.length : Int)) rfl (fun hg => (cp_ ⟨(fun _ => hg), tv⟩ rfl tv)) (st (pg_ (u := .bool (decide ((a1.value.length : Int) > 32))) rfl (fun hg => (cp_ ⟨(fun _ => hg), tv, tv⟩ rfl tv)) (st (pick_ rfl rfl rfl (fun h => eqt h) tv rfl (st (mv_ rfl tv (oe_ ?_))))))))))))))))))))))
   obtain ⟨v43, e44, h0⟩ := bl h0
   refine wk_ ⟨[(2, .ptr 128 0), (3, .ptr 192 0), (4, .ptr 256 0), (131, .bool v43)], [(128, [iV a0.table.clock, iV a0.table.next, .own 1024000 0 4 (a0.table.list_.map eDLease), .own 1024001 0 2 (a0.intents.map eDIntent), .lst 1 (a0.accounts.map eI), .bool a0.sealed]), (192, [.str a1.key, .str a1.value]), (256, [iV 0, iV 0, .own 259 0 4 (([] : List DLease).map eDLease), .own 260 0 2 (([] : List DIntent).map eDIntent), .own 261 0 1 (([] : List Int).map eI), .bool false])], []⟩ (fgk (by subst e44; kernel_rfl)) (ite_ (cb := v43) rfl (fun c45 => ?_) (fun c45 => ?_))
   ·replace h0 := ip c45 h0
    refine seq_ (reg_ (st (c_ (cp_ ⟨tv, tv⟩ rfl tv) (st (c_ (cp_ ⟨tv, tv⟩ rfl (nl rfl)) ?_)))))
    obtain ⟨s46, e47, h0⟩ := bnd h0
    refine st (c_ (csliceS (y := s46) rfl rfl tv ⟨tv, tv⟩ rfl rfl e47) ?_)
    obtain ⟨r48, e49, h0⟩ := bnd h0
    refine st (call0_ (r := .tup [iV r48.1, .bool r48.2]) false (H361 s46 r48 e49) ⟨tv, tv⟩ rfl rfl (fun _ => rfl) (st (mv_ rfl tv (st (c_ (cp_ ⟨tv, tv⟩ rfl tv) (st (c_ (cp_ ⟨tv, tv⟩ rfl tv) (st (mv_ rfl tv (st (mv_ rfl tv (oe_ (wk_ ⟨[(2, .ptr 128 0), (3, .ptr 192 0), (4, .ptr 256 0), (14, iV r48.1), (15, .bool r48.2)], [(128, [iV a0.table.clock, iV a0.table.next, .own 1024000 0 4 (a0.table.list_.map eDLease), .own 1024001 0 2 (a0.intents.map eDIntent), .lst 1 (a0.accounts.map eI), .bool a0.sealed]), (192, [.str a1.key, .str a1.value]), (256, [iV 0, iV 0, .own 259 0 4 (([] : List DLease).map eDLease), .own 260 0 2 (([] : List DIntent).map eDIntent), .own 261 0 1 (([] : List Int).map eI), .bool false])], []⟩ (fgk (by kernel_rfl)) (seq_ (reg_ (st (c_ (cp_ ⟨tv, tv⟩ rfl tv) (st (c_ (cp_ ⟨tv, tv⟩ rfl (nl rfl)) ?_)))))))))))))))))))
    obtain ⟨s50, e51, h0⟩ := bnd h0
    refine st (c_ (csliceS (y := s50) rfl rfl tv ⟨tv, tv, tv⟩ rfl rfl e51) ?_)
    obtain ⟨r52, e53, h0⟩ := bnd h0
    refine st (call0_ (r := .tup [iV r52.1, .bool r52.2]) false (H361 s50 r52 e53) ⟨tv, tv⟩ rfl rfl (fun _ => rfl) (st (mv_ rfl tv (st (c_ (cp_ ⟨tv, tv⟩ rfl tv) (st (c_ (cp_ ⟨tv, tv⟩ rfl tv) (st (mv_ rfl tv (st (mv_ rfl tv (oe_ (wk_ ⟨[(2, .ptr 128 0), (3, .ptr 192 0), (4, .ptr 256 0), (14, iV r48.1), (15, .bool r48.2), (16, iV r52.1), (17, .bool r52.2)], [(128, [iV a0.table.clock, iV a0.table.next, .own 1024000 0 4 (a0.table.list_.map eDLease), .own 1024001 0 2 (a0.intents.map eDIntent), .lst 1 (a0.accounts.map eI), .bool a0.sealed]), (192, [.str a1.key, .str a1.value]), (256, [iV 0, iV 0, .own 259 0 4 (([] : List DLease).map eDLease), .own 260 0 2 (([] : List DIntent).map eDIntent), .own 261 0 1 (([] : List Int).map eI), .bool false])], []⟩ (fgk (by kernel_rfl)) (seq_ (reg_ (st (mv_ rfl tv (st (c_ (cp_ ⟨tv, tv⟩ rfl tv) (st (c_ (cp_ ⟨tv, tv⟩ rfl tv) (st (stp_ rfl rfl tv rfl rfl rfl (nl rfl) (oe_ (wk_ ⟨[(2, .ptr 128 0), (3, .ptr 192 0), (4, .ptr 256 0), (15, .bool r48.2), (16, iV r52.1), (17, .bool r52.2)], [(128, [iV r48.1, iV a0.table.next, .own 1024000 0 4 (a0.table.list_.map eDLease), .own 1024001 0 2 (a0.intents.map eDIntent), .lst 1 (a0.accounts.map eI), .bool a0.sealed]), (192, [.str a1.key, .str a1.value]), (256, [iV 0, iV 0, .own 259 0 4 (([] : List DLease).map eDLease), .own 260 0 2 (([] : List DIntent).map eDIntent), .own 261 0 1 (([] : List Int).map eI), .bool false])], []⟩ (fgk (by kernel_rfl)) (seq_ (reg_ (st (mv_ rfl tv (st (c_ (cp_ ⟨tv, tv⟩ rfl tv) (st (c_ (cp_ ⟨tv, tv⟩ rfl tv) (st (stp_ rfl rfl tv rfl rfl rfl (nl rfl) (oe_ (wk_ ⟨[(2, .ptr 128 0), (3, .ptr 192 0), (4, .ptr 256 0), (15, .bool r48.2), (17, .bool r52.2)], [(128, [iV r48.1, iV r52.1, .own 1024000 0 4 (a0.table.list_.map eDLease), .own 1024001 0 2 (a0.intents.map eDIntent), .lst 1 (a0.accounts.map eI), .bool a0.sealed]), (192, [.str a1.key, .str a1.value]), (256, [iV 0, iV 0, .own 259 0 4 (([] : List DLease).map eDLease), .own 260 0 2 (([] : List DIntent).map eDIntent), .own 261 0 1 (([] : List Int).map eI), .bool false])], []⟩ (fgk (by kernel_rfl)) (seq_ (reg_ (st (c_ (cp_ ⟨tv, tv⟩ rfl tv) (st (c_ (cp_ ⟨tv, tv⟩ rfl (nl rfl)) ?_)))))))))))))))))))))))))))))))))))))))))))
    obtain ⟨s54, e55, h0⟩ := bnd h0
    refine st (c_ (csliceS (y := s54) rfl rfl tv ⟨tv, tv⟩ rfl rfl e55) (st (c_ (cp_ t3 rfl tv) (st (c_ (cp_ ⟨tv, tv⟩ rfl tv) (st (stp_ rfl rfl tv rfl rfl rfl (nl rfl) (oe_ (wk_ ⟨[(2, .ptr 128 0), (3, .ptr 192 0), (4, .ptr 256 0), (15, .bool r48.2), (17, .bool r52.2)], [(128, [iV r48.1, iV r52.1, .own 1024000 0 4 (a0.table.list_.map eDLease), .own 1024001 0 2 (a0.intents.map eDIntent), .lst 1 (a0.accounts.map eI), .bool (s54 == ([115, 101, 97, 108, 101, 100] : List UInt8))]), (192, [.str a1.key, .str a1.value]), (256, [iV 0, iV 0, .own 259 0 4 (([] : List DLease).map eDLease), .own 260 0 2 (([] : List DIntent).map eDIntent), .own 261 0 1 (([] : List Int).map eI), .bool false])], []⟩ (fgk (by kernel_rfl)) (seq_ ?_))))))))))
    obtain ⟨s56, e57, h0⟩ := bnd h0
    obtain ⟨s58, e59, h0⟩ := bnd h0
    refine draw_ (dtake tv (c_ (v := .agg [iV r48.1, iV r52.1, .own 1024000 0 4 (a0.table.list_.map eDLease), .own 1024001 0 2 (a0.intents.map eDIntent), .lst 1 (a0.accounts.map eI), .bool (s54 == ([115, 101, 97, 108, 101, 100] : List UInt8))]) (cp_ ⟨tv, tv⟩ rfl (nl rfl)) (⟨tv, (dtake tv (mv_ rfl tv (⟨tv, (dtake tv (mv_ rfl tv (⟨tv, (dtake tv (pg_ (u := .bool r52.2) rfl (fun hg => (cmv (v := .bool r52.2) rfl tv)) (⟨tv, (dtake tv (pick_ rfl rfl rfl (fun h => eqt h) tv rfl (⟨tv, (dtake tv (mv_ rfl tv (⟨tv, (dtake tv (pg_ (u := .ptr 192 1) rfl (fun hg => (cp_ ⟨tv, tv⟩ rfl tv)) (⟨tv, (dtake tv (pg_ (u := .str a1.value) rfl (fun hg => (cp_ ⟨(fun _ => hg), tv⟩ rfl (nl rfl))) (⟨tv, (dtake tv (pg_ (u := .str s56) rfl (fun hg => (csliceS (y := s56) rfl rfl (fun _ => hg) ⟨tv, tv⟩ rfl rfl (ip hg e57))) (⟨tv, (dtake tv (pg_ (u := .bool (s56 == ([115, 101, 97, 108, 101, 100] : List UInt8))) rfl (fun hg => (cp_ ⟨(fun _ => hg), tv, tv⟩ rfl tv)) (⟨tv, (dtake tv (pg_ (u := .bool (s56 == ([115, 101, 97, 108, 101, 100] : List UInt8))) rfl (fun hg => (cmv (v := .may ((bif r48.2 then r52.2 else false) == true) (.bool (s56 == ([115, 101, 97, 108, 101, 100] : List UInt8)))) rfl (fun _ => hg))) (⟨tv, (dtake tv (pg_ (u := .ptr 192 1) rfl (fun hg => (cp_ ⟨tv, tv⟩ rfl tv)) (⟨tv, (dtake tv (pg_ (u := .str a1.value) rfl (fun hg => (cp_ ⟨(fun _ => hg), tv⟩ rfl (nl rfl))) (⟨tv, (dtake tv (pg_ (u := .str s58) rfl (fun hg => (csliceS (y := s58) rfl rfl (fun _ => hg) ⟨tv, tv⟩ rfl rfl (ip hg e59))) (⟨tv, (dtake tv (pg_ (u := .bool (s58 == ([111, 112, 101, 110] : List UInt8))) rfl (fun hg => (cp_ ⟨(fun _ => hg), tv, tv⟩ rfl tv)) (⟨tv, ?_⟩)))⟩)))⟩)))⟩)))⟩)))⟩)))⟩)))⟩)))⟩)))⟩)))⟩)))⟩)))⟩)))⟩)))⟩)))
    refine dtake tv (pickg_ (u := .bool (bif (s56 == ([115, 101, 97, 108, 101, 100] : List UInt8)) then true else (s58 == ([111, 112, 101, 110] : List UInt8)))) rfl (fun hg => cpick rfl rfl (fun _ => hg) rfl rfl tv (fun h => and_ hg (eqf h)) rfl) (⟨tv, (dtake tv (pick_ rfl rfl rfl (fun h => eqt h) tv rfl (⟨tv, (dalt (stp_ rfl rfl tv rfl rfl rfl (nl rfl) (dkw ⟨[(3, .ptr 192 0), (4, .ptr 256 0), (171, .bool (bif r48.2 then r52.2 else false)), (176, .may ((bif r48.2 then r52.2 else false) == true) (.bool (s56 == ([115, 101, 97, 108, 101, 100] : List UInt8)))), (177, .may (((bif r48.2 then r52.2 else false) == true) && ((s56 == ([115, 101, 97, 108, 101, 100] : List UInt8)) == false)) (.ptr 192 1)), (178, .may (((bif r48.2 then r52.2 else false) == true) && ((s56 == ([115, 101, 97, 108, 101, 100] : List UInt8)) == false)) (.str a1.value)), (179, .may (((bif r48.2 then r52.2 else false) == true) && ((s56 == ([115, 101, 97, 108, 101, 100] : List UInt8)) == false)) (.str s58)), (180, .may (((bif r48.2 then r52.2 else false) == true) && ((s56 == ([115, 101, 97, 108, 101, 100] : List UInt8)) == false)) (.bool (s58 == ([111, 112, 101, 110] : List UInt8)))), (181, .may ((bif r48.2 then r52.2 else false) == true) (.bool (bif (s56 == ([115, 101, 97, 108, 101, 100] : List UInt8)) then true else (s58 == ([111, 112, 101, 110] : List UInt8))))), (182, .bool (bif (bif r48.2 then r52.2 else false) then (bif (s56 == ([115, 101, 97, 108, 101, 100] : List UInt8)) then true else (s58 == ([111, 112, 101, 110] : List UInt8))) else false))], [(192, [.str a1.key, .str a1.value]), (256, [iV r48.1, iV r52.1, .own 1024000 0 4 (a0.table.list_.map eDLease), .own 1024001 0 2 (a0.intents.map eDIntent), .lst 1 (a0.accounts.map eI), .bool (s54 == ([115, 101, 97, 108, 101, 100] : List UInt8))])], []⟩ (fgk (by kernel_rfl)) ⟨[], ⟨⟨.inl tv, (againp (cpick rfl rfl tv rfl rfl (fun h => eqt h) tv rfl) rfl)⟩, ⟨.inl tv, (againpg (v := .bool (bif (s56 == ([115, 101, 97, 108, 101, 100] : List UInt8)) then true else (s58 == ([111, 112, 101, 110] : List UInt8)))) rfl (fun hg => cpick rfl rfl (fun _ => hg) rfl rfl tv (fun h => and_ hg (eqf h)) rfl) rfl)⟩, ⟨.inl tv, (againg (v := .bool (s58 == ([111, 112, 101, 110] : List UInt8))) rfl (fun hg => (cp_ ⟨(fun _ => hg), tv, tv⟩ rfl tv)) rfl)⟩, ⟨.inl tv, (againg (v := .str s58) rfl (fun hg => (csliceS (y := s58) rfl rfl (fun _ => hg) ⟨tv, tv⟩ rfl rfl (ip hg e59))) rfl)⟩, ⟨.inl tv, (againg (v := .str a1.value) rfl (fun hg => (cp_ ⟨(fun _ => hg), tv⟩ rfl (nl rfl))) rfl)⟩, ⟨.inl tv, (againg (v := .ptr 192 1) rfl (fun hg => (cp_ ⟨tv, tv⟩ rfl tv)) rfl)⟩, tv⟩, tv, (dtake tv (mv_ rfl tv (⟨tv, (dfin ?_)⟩)))⟩)) dstop)⟩)))⟩))
    obtain ⟨v60, e61, h0⟩ := bl h0
    refine wk_ ⟨[(4, .ptr 256 0), (5, .bool v60)], [(256, [iV r48.1, iV r52.1, .own 1024000 0 4 (a0.table.list_.map eDLease), .own 1024001 0 2 (a0.intents.map eDIntent), .lst 1 (a0.accounts.map eI), .bool (s54 == ([115, 101, 97, 108, 101, 100] : List UInt8))])], []⟩ (fgk (by subst e61; kernel_rfl)) ?_
    obtain rfl := Option.some.inj h0
    exact rt_ (ret_ rfl rfl rfl rfl rfl tv)
   ·replace h0 := inb c45 h0
    refine sk_ (bn_ (wk_ ⟨[(2, .ptr 128 0), (4, .ptr 256 0)], [(128, [iV a0.table.clock, iV a0.table.next, .own 1024000 0 4 (a0.table.list_.map eDLease), .own 1024001 0 2 (a0.intents.map eDIntent), .lst 1 (a0.accounts.map eI), .bool a0.sealed]), (256, [iV 0, iV 0, .own 259 0 4 (([] : List DLease).map eDLease), .own 260 0 2 (([] : List DIntent).map eDIntent), .own 261 0 1 (([] : List Int).map eI), .bool false])], []⟩ (fgk (by kernel_rfl)) (seq_ (reg_ (st (c_ (v := .agg [iV a0.table.clock, iV a0.table.next, .own 1024000 0 4 (a0.table.list_.map eDLease), .own 1024001 0 2 (a0.intents.map eDIntent), .lst 1 (a0.accounts.map eI), .bool a0.sealed]) (cp_ ⟨tv, tv⟩ rfl (nl rfl)) (st (stp_ rfl rfl tv rfl rfl rfl (nl rfl) (st (mvc_ tv (oe_ (wk_ ⟨[(4, .ptr 256 0), (5, .bool false)], [(256, [iV a0.table.clock, iV a0.table.next, .own 1024000 0 4 (a0.table.list_.map eDLease), .own 1024001 0 2 (a0.intents.map eDIntent), .lst 1 (a0.accounts.map eI), .bool a0.sealed])], []⟩ (fgk (by kernel_rfl)) ?_))))))))))))
    obtain rfl := Option.some.inj h0
    exact rt_ (ret_ rfl rfl rfl rfl rfl tv)

/- loop.example/g00149/spec.VaultOf -/
def c256_r0 : List Ins := [⟨some 4, .alloc [(iV 0), (iV 0), (.own 259 0 4 []), (.own 260 0 2 []), (.own 261 0 1 []), (.bool false)], none⟩,
⟨some 5, .p (.mv (.c (iV 0))), none⟩]
def c256_r1 : List Ins := [(iQ 10 (.mv (.t 0))),
(iQ 11 (.len (.t 10))),
⟨some 12, .p (.bin .gtr (.t 11) (.c (iV 4096))), none⟩,
(iQ 13 (.mv (.t 12))),
⟨some 14, .p (.mv (.t 1)), some (13, false)⟩,
⟨some 15, .p (.len (.t 14)), some (13, false)⟩,
⟨some 16, .p (.bin .gtr (.t 15) (.c (iV 4096))), some (13, false)⟩,
⟨some 17, .pick (.t 13) (.c (.bool true)) (.t 16), none⟩]
def c256_r2 : List Ins := [(iQ 18 (.build [(iV 0), (iV 0), (.own 1155 0 4 []), (.own 1156 0 2 []), (.own 1157 0 1 []), (.bool false)] [])),
⟨none, .store (.t 4) (.t 18) 6, none⟩,
⟨some 5, .p (.mv (.c (iV 2))), none⟩]
def c256_r3 : List Ins := [(iQ 19 (.mv (.t 0))),
⟨some 20, .call 318 [(.t 19)], none⟩,
(iQ 21 (.un .not (.t 20)))]
def c256_r4 : List Ins := [(iQ 22 (.build [(iV 0), (iV 0), (.own 1411 0 4 []), (.own 1412 0 2 []), (.own 1413 0 1 []), (.bool false)] [])),
⟨none, .store (.t 4) (.t 22) 6, none⟩,
⟨some 5, .p (.mv (.c (iV 1))), none⟩]
def c256_r5 : List Ins := [⟨some 23, .mkS 1 [(iV 0)] 0 [], none⟩,
(iQ 24 (.mv (.t 1))),
⟨some 25, .app 1 8 (.t 23) (.t 24), none⟩,
⟨some 26, .p (.build [(iV 0), (iV 0), (.own 1667 0 4 []), (.own 1668 0 2 []), (.own 1669 0 1 []), (.bool false)] [(4, 1, (.t 25))]), none⟩,
⟨some 6, .alloc [(iV 0), (iV 0), (.own 387 0 4 []), (.own 388 0 2 []), (.own 389 0 1 []), (.bool false)], none⟩,
⟨none, .store (.t 6) (.t 26) 6, none⟩]
def c256_r6 : List Ins := [⟨some 7, .p (.mv (.c (iV 0))), none⟩]
def c256_r7 : List Ins := [(iQ 27 (.mv (.t 7))),
(iQ 28 (.mv (.t 0))),
(iQ 29 (.len (.t 28))),
(iQ 30 (.bin .lss (.t 27) (.t 29)))]
def c256_r8 : DP := (.take (iQ 34 (.load (.t 6) 6 true))
(.take (iQ 35 (.mv (.t 0)))
(.take (iQ 36 (.mv (.t 7)))
(.take (iQ 37 (.idxA (.t 35) (.t 36) 2))
(.take (iQ 38 (.load (.t 37) 2 true))
(.alt [] ⟨some 39, .call 319 [(.t 34), (.t 38)], none⟩
(.take (iQ 33 (.mv (.t 39)))
(.take (iQ 40 (.ext (.t 33) 0))
(.take (iQ 41 (.ext (.t 33) 1))
(.alt [(iQ 41 (.ext (.t 33) 1)), (iQ 40 (.ext (.t 33) 0)), (iQ 33 (.mv (.t 39)))] ⟨some 8, .alloc [(iV 0), (iV 0), (.own 515 0 4 []), (.own 516 0 2 []), (.own 517 0 1 []), (.bool false)], none⟩
(.alt [(iQ 41 (.ext (.t 33) 1))] ⟨none, .store (.t 8) (.t 40) 6, none⟩
(.take (iQ 9 (.mv (.t 41)))
.fin)
.stop)
.stop))))
(.alt [(iQ 38 (.load (.t 37) 2 true)), (iQ 37 (.idxA (.t 35) (.t 36) 2)), (iQ 36 (.mv (.t 7))), (iQ 35 (.mv (.t 0))), (iQ 34 (.load (.t 6) 6 true))] ⟨some 8, .alloc [(iV 0), (iV 0), (.own 515 0 4 []), (.own 516 0 2 []), (.own 517 0 1 []), (.bool false)], none⟩
(.alt [] ⟨some 39, .call 319 [(.t 34), (.t 38)], none⟩
(.take (iQ 33 (.mv (.t 39)))
(.take (iQ 40 (.ext (.t 33) 0))
(.take (iQ 41 (.ext (.t 33) 1))
(.alt [(iQ 41 (.ext (.t 33) 1))] ⟨none, .store (.t 8) (.t 40) 6, none⟩
(.take (iQ 9 (.mv (.t 41)))
.fin)
.stop))))
.stop)
.stop)))))))
def c256_r9 : List Ins := [(iQ 42 (.mv (.t 9))),
(iQ 43 (.un .not (.t 42)))]
def c256_r10 : List Ins := [(iQ 44 (.build [(iV 0), (iV 0), (.own 2819 0 4 []), (.own 2820 0 2 []), (.own 2821 0 1 []), (.bool false)] [])),
⟨none, .store (.t 4) (.t 44) 6, none⟩,
⟨some 5, .p (.mv (.c (iV 3))), none⟩]
def c256_r11 : List Ins := [(iQ 45 (.load (.t 8) 6 true)),
⟨none, .store (.t 6) (.t 45) 6, none⟩]
def c256_r12 : List Ins := [(iQ 31 (.mv (.t 7))),
⟨some 32, .p (.bin .add (.t 31) (.c (iV 1))), none⟩,
(iQ 7 (.mv (.t 32)))]
def c256_l0 : IR := (.seq (.seq (.reg c256_r7) (.ite (.t 30) .skip (.exit 0))) (.seq (.block 1 (.seq (.draw c256_r8) (.seq (.seq (.reg c256_r9) (.ite (.t 43) (.seq (.reg c256_r10) .ret) .skip)) (.reg c256_r11)))) (.reg c256_r12)))
def c256_r13 : List Ins := [(iQ 46 (.load (.t 6) 6 true)),
⟨some 47, .call 46 [(.t 46)], none⟩,
(iQ 48 (.un .not (.t 47)))]
def c256_r14 : List Ins := [(iQ 49 (.build [(iV 0), (iV 0), (.own 3139 0 4 []), (.own 3140 0 2 []), (.own 3141 0 1 []), (.bool false)] [])),
⟨none, .store (.t 4) (.t 49) 6, none⟩,
⟨some 5, .p (.mv (.c (iV 13))), none⟩]
def c256_r15 : List Ins := [(iQ 50 (.load (.t 6) 6 true)),
⟨none, .store (.t 4) (.t 50) 6, none⟩,
⟨some 5, .p (.mv (.c (iV 0))), none⟩]
def c256 : XFn := { np := 2, nt := 51, res := [.cell 4 6 true, .t 5], body := (.seq (.reg c256_r0) (.seq (.seq (.reg c256_r1) (.ite (.t 17) (.seq (.reg c256_r2) .ret) .skip)) (.seq (.seq (.reg c256_r3) (.ite (.t 21) (.seq (.reg c256_r4) .ret) .skip)) (.seq (.reg c256_r5) (.seq (.seq (.reg c256_r6) (.block 0 (.loop c256_l0))) (.seq (.seq (.reg c256_r13) (.ite (.t 48) (.seq (.reg c256_r14) .ret) .skip)) (.seq (.reg c256_r15) .ret))))))) }
def K256 (C : CRel) : Prop := ∀ (a0 : List DPair) (a1 : List Int) (r : DVault × Int), g256 a0 a1 = some r → C 256 ⟨[.lst 2 (a0.map eDPair), .lst 1 (a1.map eI)], []⟩ ⟨.tup [.agg [iV r.1.table.clock, iV r.1.table.next, .own 0 0 4 (r.1.table.list_.map eDLease), .own 1 0 2 (r.1.intents.map eDIntent), .lst 1 (r.1.accounts.map eI), .bool r.1.sealed], iV r.2], [], []⟩
theorem F256 {C : CRel} (H46 : K46 C) (H318 : K318 C) (H319 : K319 C) (a0 : List DPair) (a1 : List Int) (r : DVault × Int) (h0 : g256 a0 a1 = some r) : FnOK C c256 ⟨[.lst 2 (a0.map eDPair), .lst 1 (a1.map eI)], []⟩ ⟨.tup [.agg [iV r.1.table.clock, iV r.1.table.next, .own 0 0 4 (r.1.table.list_.map eDLease), .own 1 0 2 (r.1.intents.map eDIntent), .lst 1 (r.1.accounts.map eI), .bool r.1.sealed], iV r.2], [], []⟩ := by
 refine fn_ (nl rfl) (seq_ (reg_ (st (alloc_ (st (mvc_ tv (oe_ (wk_ ⟨[(0, .lst 2 (a0.map eDPair)), (1, .lst 1 (a1.map eI)), (4, .ptr 256 0)], [(256, [iV 0, iV 0, .own 259 0 4 (([] : List DLease).map eDLease), .own 260 0 2 (([] : List DIntent).map eDIntent), .own 261 0 1 (([] : List Int).map eI), .bool false])], []⟩ (fgk (by kernel_rfl)) (seq_ (seq_ (reg_ (st (mv_ rfl tv (st (c_ (clenL (e := eDPair) (l0 := a0) rfl rfl tv) (st (c_ (cp_ t3 rfl tv) (st (mv_ rfl tv (st (pg_ (u := .lst 1 (a1.map eI)) rfl (fun hg => (cmv (v := .lst 1 (a1.map eI)) rfl tv)) (st (pg_ (u := iV (a1.length : Int)) rfl (fun hg => (clenL (e := eI) (l0 := a1) rfl rfl (fun _ => hg))) (st (pg_ (u := .bool (decide ((a1.length : Int) > 4096))) rfl (fun hg => (cp_ ⟨(fun _ => hg), tv, tv⟩ rfl tv)) (st (pick_ rfl rfl rfl tv (fun h => eqf h) rfl (oe_ ?_))))))))))))))))))))))))))))
 obtain ⟨v1, e2, h0⟩ := bl h0
 refine wk_ ⟨[(0, .lst 2 (a0.map eDPair)), (1, .lst 1 (a1.map eI)), (4, .ptr 256 0), (17, .bool v1)], [(256, [iV 0, iV 0, .own 259 0 4 (([] : List DLease).map eDLease), .own 260 0 2 (([] : List DIntent).map eDIntent), .own 261 0 1 (([] : List Int).map eI), .bool false])], []⟩ (fgk (by subst e2; kernel_rfl)) (ite_ (cb := v1) rfl (fun c3 => ?_) (fun c3 => ?_))
 ·replace h0 := ip c3 h0
  refine seq_ (reg_ (st (c_ (v := .agg [iV 0, iV 0, .own 1155 0 4 (([] : List DLease).map eDLease), .own 1156 0 2 (([] : List DIntent).map eDIntent), .own 1157 0 1 (([] : List Int).map eI), .bool false]) (cp_ tv rfl tv) (st (stp_ rfl rfl tv rfl rfl rfl (nl rfl) (st (mvc_ tv (oe_ (wk_ ⟨[(4, .ptr 256 0), (5, iV 2)], [(256, [iV 0, iV 0, .own 1155 0 4 (([] : List DLease).map eDLease), .own 1156 0 2 (([] : List DIntent).map eDIntent), .lst 1 (([] : List Int).map eI), .bool false])], []⟩ (fgzk [1157] (by kernel_rfl)) ?_)))))))))
  obtain rfl := Option.some.inj h0
  exact rt_ (ret_ rfl rfl rfl rfl rfl tv)
 ·replace h0 := inb c3 h0
  refine sk_ (wk_ ⟨[(0, .lst 2 (a0.map eDPair)), (1, .lst 1 (a1.map eI)), (4, .ptr 256 0)], [(256, [iV 0, iV 0, .own 259 0 4 (([] : List DLease).map eDLease), .own 260 0 2 (([] : List DIntent).map eDIntent), .own 261 0 1 (([] : List Int).map eI), .bool false])], []⟩ (fgk (by kernel_rfl)) (seq_ (seq_ (reg_ (st (mv_ rfl tv ?_))))))
  obtain ⟨r4, e5, h0⟩ := bnd h0
  refine st (call0_ (r := .bool r4) false (H318 a0 r4 e5) ⟨tv, tv⟩ rfl rfl (fun _ => rfl) (st (c_ (cp_ ⟨tv, tv⟩ rfl tv) (oe_ (wk_ ⟨[(0, .lst 2 (a0.map eDPair)), (1, .lst 1 (a1.map eI)), (4, .ptr 256 0), (21, .bool (!r4))], [(256, [iV 0, iV 0, .own 259 0 4 (([] : List DLease).map eDLease), .own 260 0 2 (([] : List DIntent).map eDIntent), .own 261 0 1 (([] : List Int).map eI), .bool false])], []⟩ (fgk (by kernel_rfl)) (ite_ (cb := (!r4)) rfl (fun c6 => ?_) (fun c6 => ?_)))))))
  ·replace h0 := ip c6 h0
   refine seq_ (reg_ (st (c_ (v := .agg [iV 0, iV 0, .own 1411 0 4 (([] : List DLease).map eDLease), .own 1412 0 2 (([] : List DIntent).map eDIntent), .own 1413 0 1 (([] : List Int).map eI), .bool false]) (cp_ tv rfl tv) (st (stp_ rfl rfl tv rfl rfl rfl (nl rfl) (st (mvc_ tv (oe_ (wk_ ⟨[(4, .ptr 256 0), (5, iV 1)], [(256, [iV 0, iV 0, .own 1411 0 4 (([] : List DLease).map eDLease), .own 1412 0 2 (([] : List DIntent).map eDIntent), .lst 1 (([] : List Int).map eI), .bool false])], []⟩ (fgzk [1413] (by kernel_rfl)) ?_)))))))))
   obtain rfl := Option.some.inj h0
   exact rt_ (ret_ rfl rfl rfl rfl rfl tv)
  ·replace h0 := inb c6 h0
   refine sk_ (wk_ ⟨[(0, .lst 2 (a0.map eDPair)), (1, .lst 1 (a1.map eI)), (4, .ptr 256 0)], [(256, [iV 0, iV 0, .own 259 0 4 (([] : List DLease).map eDLease), .own 260 0 2 (([] : List DIntent).map eDIntent), .own 261 0 1 (([] : List Int).map eI), .bool false])], []⟩ (fgk (by kernel_rfl)) (seq_ (reg_ (st (mkS_ tv tv (st (mv_ rfl tv ?_)))))))
   obtain ⟨c7, h0⟩ := grd h0
   refine st (app_ (e := eI) (l0 := ([] : List Int)) (l1 := a1) rfl rfl tv rfl (by decide) c7 (st (c_ (v := .agg [iV 0, iV 0, .own 1667 0 4 (([] : List DLease).map eDLease), .own 1668 0 2 (([] : List DIntent).map eDIntent), .own 1472 0 1 ((([] : List Int) ++ a1).map eI), .bool false]) (cp_ ⟨tv, tv⟩ rfl ⟨⟨rfl, rfl, nl rfl⟩, tv⟩) (st (alloc_ (st (stp_ rfl rfl tv rfl rfl rfl (nl rfl) (oe_ (wk_ ⟨[(0, .lst 2 (a0.map eDPair)), (4, .ptr 256 0), (6, .ptr 384 0)], [(256, [iV 0, iV 0, .own 259 0 4 (([] : List DLease).map eDLease), .own 260 0 2 (([] : List DIntent).map eDIntent), .own 261 0 1 (([] : List Int).map eI), .bool false]), (384, [iV 0, iV 0, .own 1667 0 4 (([] : List DLease).map eDLease), .own 1668 0 2 (([] : List DIntent).map eDIntent), .own 1472 0 1 ((([] : List Int) ++ a1).map eI), .bool false])], []⟩ (fgk (by kernel_rfl)) (seq_ (seq_ (reg_ (st (mvc_ tv (oe_ (wk_ ⟨[(0, .lst 2 (a0.map eDPair)), (4, .ptr 256 0), (6, .ptr 384 0), (7, iV 0)], [(256, [iV 0, iV 0, .own 259 0 4 (([] : List DLease).map eDLease), .own 260 0 2 (([] : List DIntent).map eDIntent), .own 261 0 1 (([] : List Int).map eI), .bool false]), (384, [iV 0, iV 0, .own 1667 0 4 (([] : List DLease).map eDLease), .own 1668 0 2 (([] : List DIntent).map eDIntent), .own 1472 0 1 ((([] : List Int) ++ a1).map eI), .bool false])], []⟩ (fgk (by kernel_rfl)) (block_ ?_)))))))))))))))))
   obtain ⟨r49, e50, h0⟩ := bnd h0
   refine loop_ (R := (fun S => ∃ p36 : Int, ∃ p37 : Int, ∃ p38 : List DLease, ∃ p39 : List DIntent, ∃ p40 : List Int, ∃ p41 : Bool, .inl (p36, p37, p38, p39, p40, p41) = r49 ∧ S = ⟨[(4, .ptr 256 0), (6, .ptr 384 0)], [(256, [iV 0, iV 0, .own 259 0 4 (([] : List DLease).map eDLease), .own 260 0 2 (([] : List DIntent).map eDIntent), .own 261 0 1 (([] : List Int).map eI), .bool false]), (384, [iV p36, iV p37, .own 1667 0 4 (p38.map eDLease), .own 1668 0 2 (p39.map eDIntent), .lst 1 (p40.map eI), .bool p41])], []⟩)) (g256_l0 a0) (fun s S => match s with | (p15, p16, p17, p18, p19, p20, p21) => S = ⟨[(0, .lst 2 (a0.map eDPair)), (4, .ptr 256 0), (6, .ptr 384 0), (7, iV p15)], [(256, [iV 0, iV 0, .own 259 0 4 (([] : List DLease).map eDLease), .own 260 0 2 (([] : List DIntent).map eDIntent), .own 261 0 1 (([] : List Int).map eI), .bool false]), (384, [iV p16, iV p17, .own 1667 0 4 (p18.map eDLease), .own 1668 0 2 (p19.map eDIntent), .lst 1 (p20.map eI), .bool p21])], []⟩) e50 ⟨[(0, .lst 2 (a0.map eDPair)), (4, .ptr 256 0), (6, .ptr 384 0), (7, iV 0)], [(256, [iV 0, iV 0, .own 259 0 4 (([] : List DLease).map eDLease), .own 260 0 2 (([] : List DIntent).map eDIntent), .own 261 0 1 (([] : List Int).map eI), .bool false]), (384, [iV 0, iV 0, .own 1667 0 4 (([] : List DLease).map eDLease), .own 1668 0 2 (([] : List DIntent).map eDIntent), .lst 1 ((([] : List Int) ++ a1).map eI), .bool false])], []⟩ (fgzk [1472] (by kernel_rfl)) rfl 0 (fun _ => rfl) ?_ ?_
   ·rintro S _ hfg ⟨p36, p37, p38, p39, p40, p41, rfl, rfl⟩
    refine wk_ ⟨[(4, .ptr 256 0), (6, .ptr 384 0)], [(256, [iV 0, iV 0, .own 259 0 4 (([] : List DLease).map eDLease), .own 260 0 2 (([] : List DIntent).map eDIntent), .own 261 0 1 (([] : List Int).map eI), .bool false]), (384, [iV p36, iV p37, .own 1667 0 4 (p38.map eDLease), .own 1668 0 2 (p39.map eDIntent), .lst 1 (p40.map eI), .bool p41])], []⟩ (fglk hfg (by kernel_rfl)) (seq_ (seq_ (reg_ (st (c_ (v := .agg [iV p36, iV p37, .own 1667 0 4 (p38.map eDLease), .own 1668 0 2 (p39.map eDIntent), .lst 1 (p40.map eI), .bool p41]) (cp_ ⟨tv, tv⟩ rfl (nl rfl)) ?_)))))
    obtain ⟨r51, e52, h0⟩ := bnd h0
    refine st (call0_ (r := .bool r51) false (H46 (DVault.mk (DTable.mk p36 p37 p38) p39 p40 p41) r51 e52) ⟨tv, tv⟩ rfl rfl (fun _ => rfl) (st (c_ (cp_ ⟨tv, tv⟩ rfl tv) (oe_ (wk_ ⟨[(4, .ptr 256 0), (6, .ptr 384 0), (48, .bool (!r51))], [(256, [iV 0, iV 0, .own 259 0 4 (([] : List DLease).map eDLease), .own 260 0 2 (([] : List DIntent).map eDIntent), .own 261 0 1 (([] : List Int).map eI), .bool false]), (384, [iV p36, iV p37, .own 1667 0 4 (p38.map eDLease), .own 1668 0 2 (p39.map eDIntent), .lst 1 (p40.map eI), .bool p41])], []⟩ (fgk (by kernel_rfl)) (ite_ (cb := (!r51)) rfl (fun c53 => ?_) (fun c53 => ?_)))))))
    ·replace h0 := ip c53 h0
     refine seq_ (reg_ (st (c_ (v := .agg [iV 0, iV 0, .own 3139 0 4 (([] : List DLease).map eDLease), .own 3140 0 2 (([] : List DIntent).map eDIntent), .own 3141 0 1 (([] : List Int).map eI), .bool false]) (cp_ tv rfl tv) (st (stp_ rfl rfl tv rfl rfl rfl (nl rfl) (st (mvc_ tv (oe_ (wk_ ⟨[(4, .ptr 256 0), (5, iV 13)], [(256, [iV 0, iV 0, .own 3139 0 4 (([] : List DLease).map eDLease), .own 3140 0 2 (([] : List DIntent).map eDIntent), .lst 1 (([] : List Int).map eI), .bool false])], []⟩ (fgzk [3141] (by kernel_rfl)) ?_)))))))))
     obtain rfl := Option.some.inj h0
     exact rt_ (ret_ rfl rfl rfl rfl rfl tv)
    ·replace h0 := inb c53 h0
     refine sk_ (wk_ ⟨[(4, .ptr 256 0), (6, .ptr 384 0)], [(256, [iV 0, iV 0, .own 259 0 4 (([] : List DLease).map eDLease), .own 260 0 2 (([] : List DIntent).map eDIntent), .own 261 0 1 (([] : List Int).map eI), .bool false]), (384, [iV p36, iV p37, .own 1667 0 4 (p38.map eDLease), .own 1668 0 2 (p39.map eDIntent), .lst 1 (p40.map eI), .bool p41])], []⟩ (fgk (by kernel_rfl)) (seq_ (reg_ (st (c_ (v := .agg [iV p36, iV p37, .own 1667 0 4 (p38.map eDLease), .own 1668 0 2 (p39.map eDIntent), .lst 1 (p40.map eI), .bool p41]) (cp_ ⟨tv, tv⟩ rfl (nl rfl)) (st (stp_ rfl rfl tv rfl rfl rfl (nl rfl) (st (mvc_ tv (oe_ (wk_ ⟨[(4, .ptr 256 0), (5, iV 0)], [(256, [iV p36, iV p37, .own 1667 0 4 (p38.map eDLease), .own 1668 0 2 (p39.map eDIntent), .lst 1 (p40.map eI), .bool p41])], []⟩ (fgk (by kernel_rfl)) ?_)))))))))))
     obtain rfl := Option.some.inj h0
     exact rt_ (ret_ rfl rfl rfl rfl rfl tv)
   ·rintro ⟨p15, p16, p17, p18, p19, p20, p21⟩ o1 _ K1 rfl h1 hx1 hK1 hE1 hR1
    refine seq_ (seq_ (reg_ (st (mv_ rfl tv (st (mv_ rfl tv (st (c_ (clenL (e := eDPair) (l0 := a0) rfl rfl tv) (st (c_ (cp_ t3 rfl tv) (oe_ (wk_ ⟨[(0, .lst 2 (a0.map eDPair)), (4, .ptr 256 0), (6, .ptr 384 0), (7, iV p15), (30, .bool (decide (p15 < (a0.length : Int))))], [(256, [iV 0, iV 0, .own 259 0 4 (([] : List DLease).map eDLease), .own 260 0 2 (([] : List DIntent).map eDIntent), .own 261 0 1 (([] : List Int).map eI), .bool false]), (384, [iV p16, iV p17, .own 1667 0 4 (p18.map eDLease), .own 1668 0 2 (p19.map eDIntent), .lst 1 (p20.map eI), .bool p21])], []⟩ (fgk (by kernel_rfl)) (ite_ (cb := (decide (p15 < (a0.length : Int)))) rfl (fun c42 => ?_) (fun c42 => ?_))))))))))))))
    ·replace h1 := ip c42 h1
     refine sk_ (wk_ ⟨[(0, .lst 2 (a0.map eDPair)), (4, .ptr 256 0), (6, .ptr 384 0), (7, iV p15)], [(256, [iV 0, iV 0, .own 259 0 4 (([] : List DLease).map eDLease), .own 260 0 2 (([] : List DIntent).map eDIntent), .own 261 0 1 (([] : List Int).map eI), .bool false]), (384, [iV p16, iV p17, .own 1667 0 4 (p18.map eDLease), .own 1668 0 2 (p19.map eDIntent), .lst 1 (p20.map eI), .bool p21])], []⟩ (fgk (by kernel_rfl)) (seq_ (block_ (seq_ ?_))))
     obtain ⟨y43, e44, h1⟩ := bnd h1
     obtain ⟨r45, e46, h1⟩ := bnd h1
     refine drawJ (fun S => S = ⟨[(0, .lst 2 (a0.map eDPair)), (4, .ptr 256 0), (6, .ptr 384 0), (7, iV p15), (8, .ptr 512 0), (9, .bool r45.2)], [(256, [iV 0, iV 0, .own 259 0 4 (([] : List DLease).map eDLease), .own 260 0 2 (([] : List DIntent).map eDIntent), .own 261 0 1 (([] : List Int).map eI), .bool false]), (384, [iV p16, iV p17, .undef, .undef, .lst 1 (p20.map eI), .bool p21]), (512, [iV r45.1.table.clock, iV r45.1.table.next, .own 2496 0 4 (r45.1.table.list_.map eDLease), .own 2497 0 2 (r45.1.intents.map eDIntent), .lst 1 (r45.1.accounts.map eI), .bool r45.1.sealed])], []⟩) ?_ (fun J47 => ?_)
     ·rintro _ rfl
      refine seq_ (seq_ (reg_ (st (mv_ rfl tv (st (c_ (cp_ ⟨tv, tv⟩ rfl tv) (oe_ (wk_ ⟨[(0, .lst 2 (a0.map eDPair)), (4, .ptr 256 0), (6, .ptr 384 0), (7, iV p15), (8, .ptr 512 0), (43, .bool (!r45.2))], [(256, [iV 0, iV 0, .own 259 0 4 (([] : List DLease).map eDLease), .own 260 0 2 (([] : List DIntent).map eDIntent), .own 261 0 1 (([] : List Int).map eI), .bool false]), (384, [iV p16, iV p17, .undef, .undef, .lst 1 (p20.map eI), .bool p21]), (512, [iV r45.1.table.clock, iV r45.1.table.next, .own 2496 0 4 (r45.1.table.list_.map eDLease), .own 2497 0 2 (r45.1.intents.map eDIntent), .lst 1 (r45.1.accounts.map eI), .bool r45.1.sealed])], []⟩ (fgk (by kernel_rfl)) (ite_ (cb := (!r45.2)) rfl (fun c48 => ?_) (fun c48 => ?_))))))))))
      ·replace h1 := ip c48 h1
       refine seq_ (reg_ (st (c_ (v := .agg [iV 0, iV 0, .own 2819 0 4 (([] : List DLease).map eDLease), .own 2820 0 2 (([] : List DIntent).map eDIntent), .own 2821 0 1 (([] : List Int).map eI), .bool false]) (cp_ tv rfl tv) (st (stp_ rfl rfl tv rfl rfl rfl (nl rfl) (st (mvc_ tv (oe_ (wk_ ⟨[(4, .ptr 256 0), (5, iV 3)], [(256, [iV 0, iV 0, .own 2819 0 4 (([] : List DLease).map eDLease), .own 2820 0 2 (([] : List DIntent).map eDIntent), .lst 1 (([] : List Int).map eI), .bool false])], []⟩ (fgzk [2821] (by kernel_rfl)) ?_)))))))))
       obtain rfl := Option.some.inj h1
       obtain rfl := hx1 _ rfl
       obtain rfl := Option.some.inj h0
       exact rt_ (hR1 _ (ret_ rfl rfl rfl rfl rfl tv))
      ·replace h1 := inb c48 h1
       refine sk_ (wk_ ⟨[(0, .lst 2 (a0.map eDPair)), (4, .ptr 256 0), (6, .ptr 384 0), (7, iV p15), (8, .ptr 512 0)], [(256, [iV 0, iV 0, .own 259 0 4 (([] : List DLease).map eDLease), .own 260 0 2 (([] : List DIntent).map eDIntent), .own 261 0 1 (([] : List Int).map eI), .bool false]), (384, [iV p16, iV p17, .undef, .undef, .lst 1 (p20.map eI), .bool p21]), (512, [iV r45.1.table.clock, iV r45.1.table.next, .own 2496 0 4 (r45.1.table.list_.map eDLease), .own 2497 0 2 (r45.1.intents.map eDIntent), .lst 1 (r45.1.accounts.map eI), .bool r45.1.sealed])], []⟩ (fgk (by kernel_rfl)) (reg_ (st (c_ (v := .agg [iV r45.1.table.clock, iV r45.1.table.next, .own 2496 0 4 (r45.1.table.list_.map eDLease), .own 2497 0 2 (r45.1.intents.map eDIntent), .lst 1 (r45.1.accounts.map eI), .bool r45.1.sealed]) (cp_ ⟨tv, tv⟩ rfl (nl rfl)) (st (stp_ rfl rfl tv rfl rfl rfl (nl rfl) (oe_ (bn_ (wk_ ⟨[(0, .lst 2 (a0.map eDPair)), (4, .ptr 256 0), (6, .ptr 384 0), (7, iV p15)], [(256, [iV 0, iV 0, .own 259 0 4 (([] : List DLease).map eDLease), .own 260 0 2 (([] : List DIntent).map eDIntent), .own 261 0 1 (([] : List Int).map eI), .bool false]), (384, [iV r45.1.table.clock, iV r45.1.table.next, .own 2496 0 4 (r45.1.table.list_.map eDLease), .own 2497 0 2 (r45.1.intents.map eDIntent), .lst 1 (r45.1.accounts.map eI), .bool r45.1.sealed])], []⟩ (fgk (by kernel_rfl)) (reg_ (st (mv_ rfl tv (st (c_ (cp_ t3 rfl tv) (st (mv_ rfl tv (oe_ ?_)))))))))))))))))
       obtain rfl := Option.some.inj h1
       exact hK1 _ rfl _ ⟨[(0, .lst 2 (a0.map eDPair)), (4, .ptr 256 0), (6, .ptr 384 0), (7, iV (IntKind.i64.wrap (p15 + 1)))], [(256, [iV 0, iV 0, .own 259 0 4 (([] : List DLease).map eDLease), .own 260 0 2 (([] : List DIntent).map eDIntent), .own 261 0 1 (([] : List Int).map eI), .bool false]), (384, [iV r45.1.table.clock, iV r45.1.table.next, .own 1667 0 4 (r45.1.table.list_.map eDLease), .own 1668 0 2 (r45.1.intents.map eDIntent), .lst 1 (r45.1.accounts.map eI), .bool r45.1.sealed])], []⟩ (fgsk [] [(2496, 1667), (2497, 1668)] rfl (by kernel_rfl)) rfl
     ·refine dtake tv (c_ (v := .agg [iV p16, iV p17, .own 1667 0 4 (p18.map eDLease), .own 1668 0 2 (p19.map eDIntent), .lst 1 (p20.map eI), .bool p21]) (cp_ ⟨tv, tv⟩ rfl (nl rfl)) ?_)
      refine ⟨tv, (dtake tv (mv_ rfl tv (⟨tv, (dtake tv (mv_ rfl tv (⟨tv, (dtake tv (c_ (cidxL (e := eDPair) (y := y43) rfl rfl tv rfl rfl tv e44) (⟨tv, (dtake tv (c_ (v := .agg (eDPair y43)) (cp_ ⟨tv, tv⟩ rfl (nl rfl)) (⟨tv, (dalt (call1_ [] [] [1667, 1668] true (H319 (DVault.mk (DTable.mk p16 p17 p18) p19 p20 p21) y43 r45 e46) ⟨tv, tv, tv⟩ (by kernel_rfl) (by kernel_rfl) (by kernel_rfl) (by kernel_rfl) (fun h => nomatch h) ?_) ?_)⟩)))⟩)))⟩)))⟩)))⟩
      ·refine dkw ⟨[(0, .lst 2 (a0.map eDPair)), (4, .ptr 256 0), (6, .ptr 384 0), (7, iV p15), (39, .tup [.agg [iV r45.1.table.clock, iV r45.1.table.next, .own 2496 0 4 (r45.1.table.list_.map eDLease), .own 2497 0 2 (r45.1.intents.map eDIntent), .lst 1 (r45.1.accounts.map eI), .bool r45.1.sealed], .bool r45.2])], [(256, [iV 0, iV 0, .own 259 0 4 (([] : List DLease).map eDLease), .own 260 0 2 (([] : List DIntent).map eDIntent), .own 261 0 1 (([] : List Int).map eI), .bool false]), (384, [iV p16, iV p17, .undef, .undef, .lst 1 (p20.map eI), .bool p21])], []⟩ (fgk (by kernel_rfl)) ⟨[], tv, tv, ?_⟩
       refine dtake tv (mv_ rfl tv (⟨tv, (dtake tv (c_ (cp_ ⟨tv, tv⟩ rfl tv) (⟨tv, (dtake tv (c_ (cp_ ⟨tv, tv⟩ rfl tv) (⟨tv, (dalt (alloc_ (dk0 ⟨[], ⟨⟨.inl tv, (again1 (cp_ ⟨tv, tv⟩ rfl tv) rfl)⟩, ⟨.inl tv, (again1 (cp_ ⟨tv, tv⟩ rfl tv) rfl)⟩, ⟨.inl tv, (again1 (cmv (v := .tup [.agg [iV r45.1.table.clock, iV r45.1.table.next, .own 2496 0 4 (r45.1.table.list_.map eDLease), .own 2497 0 2 (r45.1.intents.map eDIntent), .lst 1 (r45.1.accounts.map eI), .bool r45.1.sealed], .bool r45.2]) rfl tv) rfl)⟩, tv⟩, tv, (dalt (stp_ rfl rfl tv rfl rfl rfl (nl rfl) (dk0 ⟨[], ⟨⟨.inl tv, (again1 (cp_ ⟨tv, tv⟩ rfl tv) rfl)⟩, tv⟩, tv, (dtake tv (mv_ rfl tv (⟨tv, (dfin ?_)⟩)))⟩)) dstop)⟩)) dstop)⟩)))⟩)))⟩))
       exact J47 _ ⟨[(0, .lst 2 (a0.map eDPair)), (4, .ptr 256 0), (6, .ptr 384 0), (7, iV p15), (8, .ptr 512 0), (9, .bool r45.2)], [(256, [iV 0, iV 0, .own 259 0 4 (([] : List DLease).map eDLease), .own 260 0 2 (([] : List DIntent).map eDIntent), .own 261 0 1 (([] : List Int).map eI), .bool false]), (384, [iV p16, iV p17, .undef, .undef, .lst 1 (p20.map eI), .bool p21]), (512, [iV r45.1.table.clock, iV r45.1.table.next, .own 2496 0 4 (r45.1.table.list_.map eDLease), .own 2497 0 2 (r45.1.intents.map eDIntent), .lst 1 (r45.1.accounts.map eI), .bool r45.1.sealed])], []⟩ (fgk (by kernel_rfl)) rfl
      ·refine dalt (alloc_ ?_) dstop
       refine dk0 ⟨[], ⟨⟨.inl tv, (again1 (cp_ ⟨tv, tv⟩ rfl (nl rfl)) rfl)⟩, ⟨.inl tv, (again1 (cidxL (e := eDPair) (y := y43) rfl rfl tv rfl rfl tv e44) rfl)⟩, ⟨.inl tv, (again1 (cmv (v := iV p15) rfl tv) rfl)⟩, ⟨.inl tv, (again1 (cmv (v := .lst 2 (a0.map eDPair)) rfl tv) rfl)⟩, ⟨.inl tv, (again1 (cp_ ⟨tv, tv⟩ rfl (nl rfl)) rfl)⟩, tv⟩, tv, (dalt (call1_ [] [] [1667, 1668] true (H319 (DVault.mk (DTable.mk p16 p17 p18) p19 p20 p21) y43 r45 e46) ⟨tv, tv, tv⟩ (by kernel_rfl) (by kernel_rfl) (by kernel_rfl) (by kernel_rfl) (fun h => nomatch h) (dkw ⟨[(0, .lst 2 (a0.map eDPair)), (4, .ptr 256 0), (6, .ptr 384 0), (7, iV p15), (8, .ptr 512 0), (39, .tup [.agg [iV r45.1.table.clock, iV r45.1.table.next, .own 2496 0 4 (r45.1.table.list_.map eDLease), .own 2497 0 2 (r45.1.intents.map eDIntent), .lst 1 (r45.1.accounts.map eI), .bool r45.1.sealed], .bool r45.2])], [(256, [iV 0, iV 0, .own 259 0 4 (([] : List DLease).map eDLease), .own 260 0 2 (([] : List DIntent).map eDIntent), .own 261 0 1 (([] : List Int).map eI), .bool false]), (384, [iV p16, iV p17, .undef, .undef, .lst 1 (p20.map eI), .bool p21]), (512, [iV 0, iV 0, .own 515 0 4 (([] : List DLease).map eDLease), .own 516 0 2 (([] : List DIntent).map eDIntent), .own 517 0 1 (([] : List Int).map eI), .bool false])], []⟩ (fgk (by kernel_rfl)) ⟨[], tv, tv, (dtake tv (mv_ rfl tv (⟨tv, (dtake tv (c_ (cp_ ⟨tv, tv⟩ rfl tv) (⟨tv, (dtake tv (c_ (cp_ ⟨tv, tv⟩ rfl tv) (⟨tv, (dalt (stp_ rfl rfl tv rfl rfl rfl (nl rfl) (dk0 ⟨[], ⟨⟨.inl tv, (again1 (cp_ ⟨tv, tv⟩ rfl tv) rfl)⟩, tv⟩, tv, (dtake tv (mv_ rfl tv (⟨tv, (dfin ?_)⟩)))⟩)) dstop)⟩)))⟩)))⟩)))⟩)) dstop)⟩
       exact J47 _ ⟨[(0, .lst 2 (a0.map eDPair)), (4, .ptr 256 0), (6, .ptr 384 0), (7, iV p15), (8, .ptr 512 0), (9, .bool r45.2)], [(256, [iV 0, iV 0, .own 259 0 4 (([] : List DLease).map eDLease), .own 260 0 2 (([] : List DIntent).map eDIntent), .own 261 0 1 (([] : List Int).map eI), .bool false]), (384, [iV p16, iV p17, .undef, .undef, .lst 1 (p20.map eI), .bool p21]), (512, [iV r45.1.table.clock, iV r45.1.table.next, .own 2496 0 4 (r45.1.table.list_.map eDLease), .own 2497 0 2 (r45.1.intents.map eDIntent), .lst 1 (r45.1.accounts.map eI), .bool r45.1.sealed])], []⟩ (fgk (by kernel_rfl)) rfl
    ·replace h1 := inb c42 h1
     obtain rfl := Option.some.inj h1
     obtain rfl := hx1 _ rfl
     refine exQ rfl ?_
     exact hE1 _ ⟨[(4, .ptr 256 0), (6, .ptr 384 0)], [(256, [iV 0, iV 0, .own 259 0 4 (([] : List DLease).map eDLease), .own 260 0 2 (([] : List DIntent).map eDIntent), .own 261 0 1 (([] : List Int).map eI), .bool false]), (384, [iV p16, iV p17, .own 1667 0 4 (p18.map eDLease), .own 1668 0 2 (p19.map eDIntent), .lst 1 (p20.map eI), .bool p21])], []⟩ (fgk (by kernel_rfl)) ⟨_, _, _, _, _, _, rfl, rfl⟩

/- loop.example/g00149/laws.toPair -/
def c320_r0 : List Ins := [⟨some 1, .box (.t 0), none⟩,
⟨some 2, .alloc [(.str []), (.str [])], none⟩]
def c320_r1 : List Ins := [⟨some 3, .alloc [(.str []), (.str [])], none⟩]
def c320_r2 : List Ins := [(iQ 4 (.fieldA (.t 1) 0)),
(iQ 5 (.load (.t 4) 1 false)),
(iQ 6 (.fieldA (.t 3) 0)),
⟨none, .store (.t 6) (.t 5) 1, none⟩]
def c320_r3 : List Ins := [(iQ 7 (.fieldA (.t 1) 1)),
(iQ 8 (.load (.t 7) 1 false)),
(iQ 9 (.fieldA (.t 3) 1)),
⟨none, .store (.t 9) (.t 8) 1, none⟩]
def c320_r4 : List Ins := [(iQ 10 (.load (.t 3) 2 true)),
⟨none, .store (.t 2) (.t 10) 2, none⟩]
def c320 : XFn := { np := 1, nt := 11, res := [.cell 2 2 true], body := (.seq (.reg c320_r0) (.seq (.reg c320_r1) (.seq (.reg c320_r2) (.seq (.reg c320_r3) (.seq (.reg c320_r4) .ret))))) }
def K320 (C : CRel) : Prop := ∀ (a0 : DPair) (r : DPair), g320 a0 = some r → C 320 ⟨[.agg (eDPair a0)], []⟩ ⟨.agg (eDPair r), [], []⟩
theorem F320 {C : CRel}  (a0 : DPair) (r : DPair) (h0 : g320 a0 = some r) : FnOK C c320 ⟨[.agg (eDPair a0)], []⟩ ⟨.agg (eDPair r), [], []⟩ := by
 refine fn_ (nl rfl) (seq_ (reg_ (st (box_ rfl tv rfl (st (alloc_ (oe_ (wk_ ⟨[(1, .ptr 64 0), (2, .ptr 128 0)], [(64, [.str a0.key, .str a0.value]), (128, [.str ([] : List UInt8), .str ([] : List UInt8)])], []⟩ (fgk (by kernel_rfl)) (seq_ (reg_ (st (alloc_ (oe_ (wk_ ⟨[(1, .ptr 64 0), (2, .ptr 128 0), (3, .ptr 192 0)], [(64, [.str a0.key, .str a0.value]), (128, [.str ([] : List UInt8), .str ([] : List UInt8)]), (192, [.str ([] : List UInt8), .str ([] : List UInt8)])], []⟩ (fgk (by kernel_rfl)) (seq_ (reg_ (st (c_ (cp_ ⟨tv, tv⟩ rfl tv) (st (c_ (cp_ ⟨tv, tv⟩ rfl (nl rfl)) (st (c_ (cp_ ⟨tv, tv⟩ rfl tv) (st (stp_ rfl rfl tv rfl rfl rfl (nl rfl) (oe_ (wk_ ⟨[(1, .ptr 64 0), (2, .ptr 128 0), (3, .ptr 192 0)], [(64, [.str a0.key, .str a0.value]), (128, [.str ([] : List UInt8), .str ([] : List UInt8)]), (192, [.str a0.key, .str ([] : List UInt8)])], []⟩ (fgk (by kernel_rfl)) (seq_ (reg_ (st (c_ (cp_ ⟨tv, tv⟩ rfl tv) (st (c_ (cp_ ⟨tv, tv⟩ rfl (nl rfl)) (st (c_ (cp_ ⟨tv, tv⟩ rfl tv) (st (stp_ rfl rfl tv rfl rfl rfl (nl rfl) (oe_ (wk_ ⟨[(2, .ptr 128 0), (3, .ptr 192 0)], [(128, [.str ([] : List UInt8), .str ([] : List UInt8)]), (192, [.str a0.key, .str a0.value])], []⟩ (fgk (by kernel_rfl)) (seq_ (reg_ (st (c_ (v := .agg (eDPair a0)) (cp_ ⟨tv, tv⟩ rfl (nl rfl)) ?_))))))))))))))))))))))))))))))))))))))))))
 refine st (stp_ rfl rfl tv rfl rfl rfl (nl rfl) (oe_ (wk_ ⟨[(2, .ptr 128 0)], [(128, [.str a0.key, .str a0.value])], []⟩ (fgk (by kernel_rfl)) ?_)))
 obtain rfl := Option.some.inj h0
 exact rt_ (ret_ rfl rfl rfl rfl rfl tv)

/- loop.example/g00149/laws.toPairS -/
def c257_r0 : List Ins := [⟨some 2, .nilS 2, none⟩]
def c257_r1 : List Ins := [(iQ 5 (.mv (.t 0))),
(iQ 6 (.len (.t 5))),
⟨some 7, .make 2 32 [(.str []), (.str [])] (.t 6) (.t 6), none⟩,
(iQ 3 (.mv (.t 7)))]
def c257_r2 : List Ins := [⟨some 4, .p (.mv (.c (iV 0))), none⟩]
def c257_r3 : List Ins := [(iQ 8 (.mv (.t 4))),
(iQ 9 (.mv (.t 0))),
(iQ 10 (.len (.t 9))),
(iQ 11 (.bin .lss (.t 8) (.t 10)))]
def c257_r4 : List Ins := [(iQ 14 (.mv (.t 3))),
(iQ 15 (.mv (.t 4))),
(iQ 16 (.mv (.t 0))),
(iQ 17 (.mv (.t 4))),
(iQ 18 (.idxA (.t 16) (.t 17) 2)),
(iQ 19 (.load (.t 18) 2 true)),
⟨some 20, .call 320 [(.t 19)], none⟩,
(iQ 21 (.idxA (.t 14) (.t 15) 2)),
⟨none, .store (.t 21) (.t 20) 2, none⟩]
def c257_r5 : List Ins := [(iQ 12 (.mv (.t 4))),
⟨some 13, .p (.bin .add (.t 12) (.c (iV 1))), none⟩,
(iQ 4 (.mv (.t 13)))]
def c257_l0 : IR := (.seq (.seq (.reg c257_r3) (.ite (.t 11) .skip (.exit 0))) (.seq (.block 1 (.reg c257_r4)) (.reg c257_r5)))
def c257_r6 : List Ins := [(iQ 22 (.mv (.t 3))),
(iQ 2 (.mv (.t 22)))]
def c257 : XFn := { np := 1, nt := 23, res := [.t 2], body := (.seq (.reg c257_r0) (.seq (.reg c257_r1) (.seq (.seq (.reg c257_r2) (.block 0 (.loop c257_l0))) (.seq (.reg c257_r6) .ret)))) }
def K257 (C : CRel) : Prop := ∀ (a0 : List DPair) (r : (List DPair)), g257 a0 = some r → C 257 ⟨[.lst 2 (a0.map eDPair)], []⟩ ⟨.own 0 0 2 (r.map eDPair), [], []⟩
theorem F257 {C : CRel} (H320 : K320 C) (a0 : List DPair) (r : (List DPair)) (h0 : g257 a0 = some r) : FnOK C c257 ⟨[.lst 2 (a0.map eDPair)], []⟩ ⟨.own 0 0 2 (r.map eDPair), [], []⟩ := by
 refine fn_ (nl rfl) (seq_ (reg_ (st (nilS_ (oe_ (wk_ ⟨[(0, .lst 2 (a0.map eDPair))], [], []⟩ (fgk (by kernel_rfl)) (seq_ (reg_ (st (mv_ rfl tv (st (c_ (clenL (e := eDPair) (l0 := a0) rfl rfl tv) ?_))))))))))))
 obtain ⟨c1, h0⟩ := grd h0
 obtain ⟨c2, h0⟩ := grd h0
 refine st (make_ (e := eDPair) (DPair.mk ([] : List UInt8) ([] : List UInt8)) rfl rfl c1 rfl c2 rfl (st (mv_ rfl tv (oe_ ?_))))
 obtain ⟨v3, e4, h0⟩ := bl h0
 refine wk_ ⟨[(0, .lst 2 (a0.map eDPair)), (3, .own 448 0 2 (v3.map eDPair))], [], []⟩ (fgk (by subst e4; kernel_rfl)) (seq_ (seq_ (reg_ (st (mvc_ tv (oe_ (wk_ ⟨[(0, .lst 2 (a0.map eDPair)), (3, .own 448 0 2 (v3.map eDPair)), (4, iV 0)], [], []⟩ (fgk (by kernel_rfl)) (block_ ?_))))))))
 obtain ⟨r37, e38, h0⟩ := bnd h0
 refine loop_ (R := (fun S => ∃ p27 : List DPair, p27 = r37 ∧ S = ⟨[(3, .own 448 0 2 (p27.map eDPair))], [], []⟩)) (g257_l0 a0) (fun s S => match s with | (p14, p15) => S = ⟨[(0, .lst 2 (a0.map eDPair)), (3, .own 448 0 2 (p14.map eDPair)), (4, iV p15)], [], []⟩) e38 ⟨[(0, .lst 2 (a0.map eDPair)), (3, .own 448 0 2 (v3.map eDPair)), (4, iV 0)], [], []⟩ (fgk (by kernel_rfl)) rfl 0 (fun _ => rfl) ?_ ?_
 ·rintro S _ hfg ⟨p27, rfl, rfl⟩
  refine wk_ ⟨[(3, .own 448 0 2 (p27.map eDPair))], [], []⟩ (fglk hfg (by kernel_rfl)) (seq_ (reg_ (st (mv_ rfl tv (st (mv_ rfl tv (oe_ (wk_ ⟨[(2, .own 448 0 2 (p27.map eDPair))], [], []⟩ (fgk (by kernel_rfl)) ?_))))))))
  obtain rfl := Option.some.inj h0
  exact rt_ (ret_ rfl rfl rfl rfl rfl tv)
 ·rintro ⟨p14, p15⟩ o1 _ K1 rfl h1 hx1 hK1 hE1 hR1
  refine seq_ (seq_ (reg_ (st (mv_ rfl tv (st (mv_ rfl tv (st (c_ (clenL (e := eDPair) (l0 := a0) rfl rfl tv) (st (c_ (cp_ t3 rfl tv) (oe_ (wk_ ⟨[(0, .lst 2 (a0.map eDPair)), (3, .own 448 0 2 (p14.map eDPair)), (4, iV p15), (11, .bool (decide (p15 < (a0.length : Int))))], [], []⟩ (fgk (by kernel_rfl)) (ite_ (cb := (decide (p15 < (a0.length : Int)))) rfl (fun c28 => ?_) (fun c28 => ?_))))))))))))))
  ·replace h1 := ip c28 h1
   refine sk_ (wk_ ⟨[(0, .lst 2 (a0.map eDPair)), (3, .own 448 0 2 (p14.map eDPair)), (4, iV p15)], [], []⟩ (fgk (by kernel_rfl)) (seq_ (block_ (reg_ (st (mv_ rfl tv (st (mv_ rfl tv (st (mv_ rfl tv (st (mv_ rfl tv ?_))))))))))))
   obtain ⟨y29, e30, h1⟩ := bnd h1
   refine st (c_ (cidxL (e := eDPair) (y := y29) rfl rfl tv rfl rfl tv e30) (st (c_ (v := .agg (eDPair y29)) (cp_ ⟨tv, tv⟩ rfl (nl rfl)) ?_)))
   obtain ⟨r31, e32, h1⟩ := bnd h1
   refine st (call0_ (r := .agg (eDPair r31)) false (H320 y29 r31 e32) ⟨tv, tv⟩ rfl rfl (fun _ => rfl) ?_)
   obtain ⟨y33, e34, h1⟩ := bnd h1
   refine st (c_ (cidxO (e := eDPair) (y := y33) rfl rfl tv rfl rfl tv e34) ?_)
   obtain ⟨y35, e36, h1⟩ := bnd h1
   refine st (sto_ (y' := r31) rfl rfl tv rfl rfl rfl rfl e36 (nl rfl) rfl rfl rfl rfl (oe_ (bn_ (wk_ ⟨[(0, .lst 2 (a0.map eDPair)), (3, .own 448 0 2 ((p14.set p15.toNat r31).map eDPair)), (4, iV p15)], [], []⟩ (fg ⟨rfl, (congrArg (fun z => some ((.own 448 0 2 z : V))) overlay_map), rfl, tv⟩ tv) (reg_ (st (mv_ rfl tv (st (c_ (cp_ t3 rfl tv) (st (mv_ rfl tv (oe_ ?_))))))))))))
   obtain rfl := Option.some.inj h1
   exact hK1 _ rfl _ ⟨[(0, .lst 2 (a0.map eDPair)), (3, .own 448 0 2 ((p14.set p15.toNat r31).map eDPair)), (4, iV (IntKind.i64.wrap (p15 + 1)))], [], []⟩ (fgk (by kernel_rfl)) rfl
  ·replace h1 := inb c28 h1
   obtain rfl := Option.some.inj h1
   obtain rfl := hx1 _ rfl
   refine exQ rfl ?_
   exact hE1 _ ⟨[(3, .own 448 0 2 (p14.map eDPair))], [], []⟩ (fgk (by kernel_rfl)) ⟨_, rfl, rfl⟩

/- loop.example/g00149/impl.within -/
def c63_r0 : List Ins := [⟨some 6, .p (.mv (.c (.bool false))), none⟩]
def c63_r1 : List Ins := [(iQ 7 (.mv (.t 1))),
(iQ 8 (.mv (.t 0))),
(iQ 9 (.bin .leq (.t 7) (.t 8))),
(iQ 10 (.mv (.t 9))),
⟨some 11, .p (.mv (.t 0)), some (10, true)⟩,
⟨some 12, .p (.mv (.t 2)), some (10, true)⟩,
⟨some 13, .p (.bin .leq (.t 11) (.t 12)), some (10, true)⟩,
⟨some 14, .pick (.t 10) (.t 13) (.c (.bool false)), none⟩,
(iQ 6 (.mv (.t 14)))]
def c63 : XFn := { np := 3, nt := 15, res := [.t 6], body := (.seq (.reg c63_r0) (.seq (.reg c63_r1) .ret)) }
def K63 (C : CRel) : Prop := ∀ (a0 : Int) (a1 : Int) (a2 : Int) (r : Bool), g63 a0 a1 a2 = some r → C 63 ⟨[iV a0, iV a1, iV a2], []⟩ ⟨.bool r, [], []⟩
theorem F63 {C : CRel}  (a0 : Int) (a1 : Int) (a2 : Int) (r : Bool) (h0 : g63 a0 a1 a2 = some r) : FnOK C c63 ⟨[iV a0, iV a1, iV a2], []⟩ ⟨.bool r, [], []⟩ := by
 refine fn_ (nl rfl) (seq_ (reg_ (st (mvc_ tv (oe_ (wk_ ⟨[(0, iV a0), (1, iV a1), (2, iV a2)], [], []⟩ (fgk (by kernel_rfl)) (seq_ (reg_ (st (mv_ rfl tv (st (mv_ rfl tv (st (c_ (cp_ t3 rfl tv) (st (mv_ rfl tv (st (pg_ (u := iV a0) rfl (fun hg => (cmv (v := iV a0) rfl tv)) (st (pg_ (u := iV a2) rfl (fun hg => (cmv (v := iV a2) rfl tv)) (st (pg_ (u := .bool (decide (a0 ≤ a2))) rfl (fun hg => (cp_ ⟨(fun _ => hg), (fun _ => hg), tv⟩ rfl tv)) (st (pick_ rfl rfl rfl (fun h => eqt h) tv rfl (st (mv_ rfl tv (oe_ (wk_ ⟨[(6, .bool (bif (decide (a1 ≤ a0)) then (decide (a0 ≤ a2)) else false))], [], []⟩ (fgk (by kernel_rfl)) ?_))))))))))))))))))))))))))))
 obtain rfl := Option.some.inj h0
 exact rt_ (ret_ rfl rfl rfl rfl rfl tv)

/- loop.example/g00149/impl.isSerial -/
def c58_r0 : List Ins := [⟨some 2, .p (.mv (.c (.bool false))), none⟩]
def c58_r1 : List Ins := [(iQ 3 (.mv (.t 0))),
⟨some 4, .call 63 [(.t 3), (.c (iV 1)), (.c (iV 1000000))], none⟩,
(iQ 2 (.mv (.t 4)))]
def c58 : XFn := { np := 1, nt := 5, res := [.t 2], body := (.seq (.reg c58_r0) (.seq (.reg c58_r1) .ret)) }
def K58 (C : CRel) : Prop := ∀ (a0 : Int) (r : Bool), g58 a0 = some r → C 58 ⟨[iV a0], []⟩ ⟨.bool r, [], []⟩
theorem F58 {C : CRel} (H63 : K63 C) (a0 : Int) (r : Bool) (h0 : g58 a0 = some r) : FnOK C c58 ⟨[iV a0], []⟩ ⟨.bool r, [], []⟩ := by
 refine fn_ (nl rfl) (seq_ (reg_ (st (mvc_ tv (oe_ (wk_ ⟨[(0, iV a0)], [], []⟩ (fgk (by kernel_rfl)) (seq_ (reg_ (st (mv_ rfl tv ?_))))))))))
 obtain ⟨r1, e2, h0⟩ := bnd h0
 refine st (call0_ (r := .bool r1) false (H63 a0 1 1000000 r1 e2) ⟨tv, tv, tv, tv⟩ rfl rfl (fun _ => rfl) (st (mv_ rfl tv (oe_ (wk_ ⟨[(2, .bool r1)], [], []⟩ (fgk (by kernel_rfl)) ?_)))))
 obtain rfl := Option.some.inj h0
 exact rt_ (ret_ rfl rfl rfl rfl rfl tv)

/- loop.example/g00149/impl.rises -/
def c59_r0 : List Ins := [⟨some 6, .p (.mv (.c (.bool false))), none⟩]
def c59_r1 : List Ins := [(iQ 9 (.mv (.t 0))),
(iQ 10 (.len (.t 9))),
⟨some 11, .p (.mv (.c (iV 0))), none⟩]
def c59_r2 : List Ins := [(iQ 12 (.bin .lss (.t 11) (.t 10)))]
def c59_r3 : List Ins := [(iQ 13 (.mv (.t 11))),
(iQ 14 (.idxA (.t 9) (.t 11) 1)),
(iQ 15 (.load (.t 14) 1 false)),
(iQ 7 (.mv (.t 13))),
(iQ 8 (.mv (.t 15)))]
def c59_r4 : List Ins := [(iQ 16 (.mv (.t 8))),
(iQ 17 (.mv (.t 1))),
(iQ 18 (.mv (.t 2))),
⟨some 19, .call 63 [(.t 16), (.t 17), (.t 18)], none⟩,
(iQ 20 (.un .not (.t 19))),
(iQ 21 (.mv (.t 20))),
⟨some 22, .p (.mv (.t 7)), some (21, false)⟩,
⟨some 23, .p (.bin .gtr (.t 22) (.c (iV 0))), some (21, false)⟩,
⟨some 24, .p (.mv (.t 23)), some (21, false)⟩,
⟨some 25, .p (.mv (.t 0)), some (24, true)⟩,
⟨some 26, .p (.mv (.t 7)), some (24, true)⟩,
⟨some 27, .p (.bin .sub (.t 26) (.c (iV 1))), some (24, true)⟩,
⟨some 28, .p (.idxA (.t 25) (.t 27) 1), some (24, true)⟩,
⟨some 29, .p (.load (.t 28) 1 false), some (24, true)⟩,
⟨some 30, .p (.mv (.t 8)), some (24, true)⟩,
⟨some 31, .p (.bin .geq (.t 29) (.t 30)), some (24, true)⟩,
⟨some 32, .pick (.t 24) (.t 31) (.c (.bool false)), some (21, false)⟩,
⟨some 33, .pick (.t 21) (.c (.bool true)) (.t 32), none⟩]
def c59_r5 : List Ins := [⟨some 6, .p (.mv (.c (.bool false))), none⟩]
def c59_r6 : List Ins := [⟨some 34, .p (.bin .add (.t 11) (.c (iV 1))), none⟩,
(iQ 11 (.mv (.t 34)))]
def c59_l0 : IR := (.seq (.reg c59_r2) (.seq (.ite (.t 12) .skip (.exit 0)) (.seq (.block 1 (.seq (.reg c59_r3) (.seq (.reg c59_r4) (.ite (.t 33) (.seq (.reg c59_r5) .ret) .skip)))) (.reg c59_r6))))
def c59_r7 : List Ins := [⟨some 6, .p (.mv (.c (.bool true))), none⟩]
def c59 : XFn := { np := 3, nt := 35, res := [.t 6], body := (.seq (.reg c59_r0) (.seq (.seq (.reg c59_r1) (.block 0 (.loop c59_l0))) (.seq (.reg c59_r7) .ret))) }
def K59 (C : CRel) : Prop := ∀ (a0 : List Int) (a1 : Int) (a2 : Int) (r : Bool), g59 a0 a1 a2 = some r → C 59 ⟨[.lst 1 (a0.map eI), iV a1, iV a2], []⟩ ⟨.bool r, [], []⟩
theorem F59 {C : CRel} (H63 : K63 C) (a0 : List Int) (a1 : Int) (a2 : Int) (r : Bool) (h0 : g59 a0 a1 a2 = some r) : FnOK C c59 ⟨[.lst 1 (a0.map eI), iV a1, iV a2], []⟩ ⟨.bool r, [], []⟩ := by
 refine fn_ (nl rfl) (seq_ (reg_ (st (mvc_ tv (oe_ (wk_ ⟨[(0, .lst 1 (a0.map eI)), (1, iV a1), (2, iV a2)], [], []⟩ (fgk (by kernel_rfl)) (seq_ (seq_ (reg_ (st (mv_ rfl tv (st (c_ (clenL (e := eI) (l0 := a0) rfl rfl tv) (st (mvc_ tv (oe_ (wk_ ⟨[(0, .lst 1 (a0.map eI)), (1, iV a1), (2, iV a2), (9, .lst 1 (a0.map eI)), (10, iV (a0.length : Int)), (11, iV 0)], [], []⟩ (fgk (by kernel_rfl)) (block_ ?_))))))))))))))))))
 obtain ⟨r33, e34, h0⟩ := bnd h0
 refine loop_ (R := (fun S => .inl () = r33 ∧ S = ⟨[], [], []⟩)) (g59_l0 a0 a1 a2) (fun s S => match s with | p11 => S = ⟨[(0, .lst 1 (a0.map eI)), (1, iV a1), (2, iV a2), (9, .lst 1 (a0.map eI)), (10, iV (a0.length : Int)), (11, iV p11)], [], []⟩) e34 ⟨[(0, .lst 1 (a0.map eI)), (1, iV a1), (2, iV a2), (9, .lst 1 (a0.map eI)), (10, iV (a0.length : Int)), (11, iV 0)], [], []⟩ (fgk (by kernel_rfl)) rfl 0 (fun _ => rfl) ?_ ?_
 ·rintro S _ hfg ⟨rfl, rfl⟩
  refine wk_ ⟨[], [], []⟩ (fglk hfg (by kernel_rfl)) (seq_ (reg_ (st (mvc_ tv (oe_ (wk_ ⟨[(6, .bool true)], [], []⟩ (fgk (by kernel_rfl)) ?_))))))
  obtain rfl := Option.some.inj h0
  exact rt_ (ret_ rfl rfl rfl rfl rfl tv)
 ·rintro p11 o1 _ K1 rfl h1 hx1 hK1 hE1 hR1
  refine seq_ (reg_ (st (c_ (cp_ t3 rfl tv) (oe_ (wk_ ⟨[(0, .lst 1 (a0.map eI)), (1, iV a1), (2, iV a2), (9, .lst 1 (a0.map eI)), (10, iV (a0.length : Int)), (11, iV p11), (12, .bool (decide (p11 < (a0.length : Int))))], [], []⟩ (fgk (by kernel_rfl)) (seq_ (ite_ (cb := (decide (p11 < (a0.length : Int)))) rfl (fun c23 => ?_) (fun c23 => ?_))))))))
  ·replace h1 := ip c23 h1
   refine sk_ (wk_ ⟨[(0, .lst 1 (a0.map eI)), (1, iV a1), (2, iV a2), (9, .lst 1 (a0.map eI)), (10, iV (a0.length : Int)), (11, iV p11)], [], []⟩ (fgk (by kernel_rfl)) (seq_ (block_ (seq_ (reg_ (st (mv_ rfl tv ?_)))))))
   obtain ⟨y24, e25, h1⟩ := bnd h1
   refine st (c_ (cidxL (e := eI) (y := y24) rfl rfl tv rfl rfl tv e25) (st (c_ (cp_ ⟨tv, tv⟩ rfl (nl rfl)) (st (mv_ rfl tv (st (mv_ rfl tv (oe_ (wk_ ⟨[(0, .lst 1 (a0.map eI)), (1, iV a1), (2, iV a2), (7, iV p11), (8, iV y24), (9, .lst 1 (a0.map eI)), (10, iV (a0.length : Int)), (11, iV p11)], [], []⟩ (fgk (by kernel_rfl)) (seq_ (reg_ (st (mv_ rfl tv (st (mv_ rfl tv (st (mv_ rfl tv ?_)))))))))))))))))
   obtain ⟨r26, e27, h1⟩ := bnd h1
   refine st (call0_ (r := .bool r26) false (H63 y24 a1 a2 r26 e27) ⟨tv, tv, tv, tv⟩ rfl rfl (fun _ => rfl) (st (c_ (cp_ ⟨tv, tv⟩ rfl tv) (st (mv_ rfl tv (st (pg_ (u := iV p11) rfl (fun hg => (cmv (v := iV p11) rfl tv)) (st (pg_ (u := .bool (decide (p11 > 0))) rfl (fun hg => (cp_ ⟨(fun _ => hg), tv, tv⟩ rfl tv)) (st (pg_ (u := .bool (decide (p11 > 0))) rfl (fun hg => (cmv (v := .may ((!r26) == false) (.bool (decide (p11 > 0)))) rfl (fun _ => hg))) (st (pg_ (u := .lst 1 (a0.map eI)) rfl (fun hg => (cmv (v := .lst 1 (a0.map eI)) rfl tv)) (st (pg_ (u := iV p11) rfl (fun hg => (cmv (v := iV p11) rfl tv)) (st (pg_ (u := iV (IntKind.i64.wrap (p11 - 1))) rfl (fun hg => (cp_ ⟨(fun _ => hg), tv, tv⟩ rfl tv)) ?_)))))))))))))))))
   obtain ⟨y28, e29, h1⟩ := bnd h1
   refine sw ⟨[(0, .lst 1 (a0.map eI)), (1, iV a1), (2, iV a2), (8, iV y24), (9, .lst 1 (a0.map eI)), (10, iV (a0.length : Int)), (11, iV p11), (21, .bool (!r26)), (24, .may ((!r26) == false) (.bool (decide (p11 > 0)))), (25, .may (((!r26) == false) && ((decide (p11 > 0)) == true)) (.lst 1 (a0.map eI))), (27, .may (((!r26) == false) && ((decide (p11 > 0)) == true)) (iV (IntKind.i64.wrap (p11 - 1))))], [], []⟩ (fgk (by kernel_rfl)) (pg_ (u := .iptr [iV y28]) rfl (fun hg => (cidxL (e := eI) (y := y28) rfl rfl (fun _ => hg) rfl rfl (fun _ => hg) (ip hg e29))) (st (pg_ (u := iV y28) rfl (fun hg => (cp_ ⟨(fun _ => hg), tv⟩ rfl (nl rfl))) (st (pg_ (u := iV y24) rfl (fun hg => (cmv (v := iV y24) rfl tv)) (st (pg_ (u := .bool (decide (y28 ≥ y24))) rfl (fun hg => (cp_ ⟨(fun _ => hg), (fun _ => hg), tv⟩ rfl tv)) (st (pickg_ (u := .bool (bif (decide (p11 > 0)) then (decide (y28 ≥ y24)) else false)) rfl (fun hg => cpick rfl rfl (fun _ => hg) rfl rfl (fun h => and_ hg (eqt h)) tv rfl) (st (pick_ rfl rfl rfl tv (fun h => eqf h) rfl (oe_ ?_))))))))))))
   obtain ⟨v30, e31, h1⟩ := bl h1
   refine wk_ ⟨[(0, .lst 1 (a0.map eI)), (1, iV a1), (2, iV a2), (9, .lst 1 (a0.map eI)), (10, iV (a0.length : Int)), (11, iV p11), (33, .bool v30)], [], []⟩ (fgk (by subst e31; kernel_rfl)) (ite_ (cb := v30) rfl (fun c32 => ?_) (fun c32 => ?_))
   ·replace h1 := ip c32 h1
    refine seq_ (reg_ (st (mvc_ tv (oe_ (wk_ ⟨[(6, .bool false)], [], []⟩ (fgk (by kernel_rfl)) ?_)))))
    obtain rfl := Option.some.inj h1
    obtain rfl := hx1 _ rfl
    obtain rfl := Option.some.inj h0
    exact rt_ (hR1 _ (ret_ rfl rfl rfl rfl rfl tv))
   ·replace h1 := inb c32 h1
    refine sk_ (bn_ (wk_ ⟨[(0, .lst 1 (a0.map eI)), (1, iV a1), (2, iV a2), (9, .lst 1 (a0.map eI)), (10, iV (a0.length : Int)), (11, iV p11)], [], []⟩ (fgk (by kernel_rfl)) (reg_ (st (c_ (cp_ t3 rfl tv) (st (mv_ rfl tv (oe_ ?_))))))))
    obtain rfl := Option.some.inj h1
    exact hK1 _ rfl _ ⟨[(0, .lst 1 (a0.map eI)), (1, iV a1), (2, iV a2), (9, .lst 1 (a0.map eI)), (10, iV (a0.length : Int)), (11, iV (IntKind.i64.wrap (p11 + 1)))], [], []⟩ (fgk (by kernel_rfl)) rfl
  ·replace h1 := inb c23 h1
   obtain rfl := Option.some.inj h1
   obtain rfl := hx1 _ rfl
   refine exQ rfl ?_
   exact hE1 _ ⟨[], [], []⟩ (fgk (by kernel_rfl)) ⟨rfl, rfl⟩

/- (loop.example/g00149/impl.Table).ids -/
def c60_r0 : List Ins := [⟨some 1, .box (.t 0), none⟩,
⟨some 2, .nilS 1, none⟩]
def c60_r1 : List Ins := [⟨some 3, .nilS 1, none⟩]
def c60_r2 : List Ins := [(iQ 6 (.fieldA (.t 1) 2)),
(iQ 7 (.load (.t 6) 1 false)),
(iQ 8 (.len (.t 7))),
⟨some 9, .p (.mv (.c (iV 0))), none⟩]
def c60_r3 : List Ins := [(iQ 10 (.bin .lss (.t 9) (.t 8)))]
def c60_r4 : List Ins := [(iQ 11 (.idxA (.t 7) (.t 9) 4)),
(iQ 12 (.load (.t 11) 4 true)),
⟨some 5, .alloc [(iV 0), (iV 0), (iV 0), (.bool false)], none⟩,
⟨none, .store (.t 5) (.t 12) 4, none⟩]
def c60_r5 : List Ins := [(iQ 13 (.mv (.t 3))),
(iQ 14 (.fieldA (.t 5) 0)),
(iQ 15 (.load (.t 14) 1 false)),
⟨some 16, .mkS 1 [(iV 0)] 1 [(0, (.t 15))], none⟩,
⟨some 17, .app 1 8 (.t 13) (.t 16), none⟩,
(iQ 3 (.mv (.t 17)))]
def c60_r6 : List Ins := [⟨some 18, .p (.bin .add (.t 9) (.c (iV 1))), none⟩,
(iQ 9 (.mv (.t 18)))]
def c60_l0 : IR := (.seq (.reg c60_r3) (.seq (.ite (.t 10) .skip (.exit 0)) (.seq (.block 1 (.seq (.reg c60_r4) (.reg c60_r5))) (.reg c60_r6))))
def c60_r7 : List Ins := [(iQ 19 (.mv (.t 3))),
(iQ 2 (.mv (.t 19)))]
def c60 : XFn := { np := 1, nt := 20, res := [.t 2], body := (.seq (.reg c60_r0) (.seq (.reg c60_r1) (.seq (.seq (.reg c60_r2) (.block 0 (.loop c60_l0))) (.seq (.reg c60_r7) .ret)))) }
def K60 (C : CRel) : Prop := ∀ (a0 : DTable) (r : (List Int)), g60 a0 = some r → C 60 ⟨[.agg (eDTable a0)], []⟩ ⟨.own 0 0 1 (r.map eI), [], []⟩
theorem F60 {C : CRel}  (a0 : DTable) (r : (List Int)) (h0 : g60 a0 = some r) : FnOK C c60 ⟨[.agg (eDTable a0)], []⟩ ⟨.own 0 0 1 (r.map eI), [], []⟩ := by
 refine fn_ (nl rfl) (seq_ (reg_ (st (box_ rfl tv rfl (st (nilS_ (oe_ (wk_ ⟨[(1, .ptr 64 0)], [(64, [iV a0.clock, iV a0.next, .lst 4 (a0.list_.map eDLease)])], []⟩ (fgk (by kernel_rfl)) (seq_ (reg_ (st (nilS_ (oe_ (wk_ ⟨[(1, .ptr 64 0), (3, .own 192 0 1 ([].map eI))], [(64, [iV a0.clock, iV a0.next, .lst 4 (a0.list_.map eDLease)])], []⟩ (fgk (by kernel_rfl)) (seq_ (seq_ (reg_ (st (c_ (cp_ ⟨tv, tv⟩ rfl tv) (st (c_ (cp_ ⟨tv, tv⟩ rfl (nl rfl)) (st (c_ (clenL (e := eDLease) (l0 := a0.list_) rfl rfl tv) (st (mvc_ tv (oe_ (wk_ ⟨[(3, .own 192 0 1 ([].map eI)), (7, .lst 4 (a0.list_.map eDLease)), (8, iV (a0.list_.length : Int)), (9, iV 0)], [], []⟩ (fgk (by kernel_rfl)) (block_ ?_))))))))))))))))))))))))))))
 obtain ⟨r18, e19, h0⟩ := bnd h0
 refine loop_ (R := (fun S => ∃ p13 : List Int, p13 = r18 ∧ S = ⟨[(3, .own 192 0 1 (p13.map eI))], [], []⟩)) (g60_l0 a0) (fun s S => match s with | (p5, p6) => S = ⟨[(3, .own 192 0 1 (p5.map eI)), (7, .lst 4 (a0.list_.map eDLease)), (8, iV (a0.list_.length : Int)), (9, iV p6)], [], []⟩) e19 ⟨[(3, .own 192 0 1 ([].map eI)), (7, .lst 4 (a0.list_.map eDLease)), (8, iV (a0.list_.length : Int)), (9, iV 0)], [], []⟩ (fgk (by kernel_rfl)) rfl 0 (fun _ => rfl) ?_ ?_
 ·rintro S _ hfg ⟨p13, rfl, rfl⟩
  refine wk_ ⟨[(3, .own 192 0 1 (p13.map eI))], [], []⟩ (fglk hfg (by kernel_rfl)) (seq_ (reg_ (st (mv_ rfl tv (st (mv_ rfl tv (oe_ (wk_ ⟨[(2, .own 192 0 1 (p13.map eI))], [], []⟩ (fgk (by kernel_rfl)) ?_))))))))
  obtain rfl := Option.some.inj h0
  exact rt_ (ret_ rfl rfl rfl rfl rfl tv)
 ·rintro ⟨p5, p6⟩ o1 _ K1 rfl h1 hx1 hK1 hE1 hR1
  refine seq_ (reg_ (st (c_ (cp_ t3 rfl tv) (oe_ (wk_ ⟨[(3, .own 192 0 1 (p5.map eI)), (7, .lst 4 (a0.list_.map eDLease)), (8, iV (a0.list_.length : Int)), (9, iV p6), (10, .bool (decide (p6 < (a0.list_.length : Int))))], [], []⟩ (fgk (by kernel_rfl)) (seq_ (ite_ (cb := (decide (p6 < (a0.list_.length : Int)))) rfl (fun c14 => ?_) (fun c14 => ?_))))))))
  ·replace h1 := ip c14 h1
   refine sk_ (wk_ ⟨[(3, .own 192 0 1 (p5.map eI)), (7, .lst 4 (a0.list_.map eDLease)), (8, iV (a0.list_.length : Int)), (9, iV p6)], [], []⟩ (fgk (by kernel_rfl)) (seq_ (block_ (seq_ (reg_ ?_)))))
   obtain ⟨y15, e16, h1⟩ := bnd h1
   refine st (c_ (cidxL (e := eDLease) (y := y15) rfl rfl tv rfl rfl tv e16) (st (c_ (v := .agg (eDLease y15)) (cp_ ⟨tv, tv⟩ rfl (nl rfl)) (st (alloc_ (st (stp_ rfl rfl tv rfl rfl rfl (nl rfl) (oe_ (wk_ ⟨[(3, .own 192 0 1 (p5.map eI)), (5, .ptr 320 0), (7, .lst 4 (a0.list_.map eDLease)), (8, iV (a0.list_.length : Int)), (9, iV p6)], [(320, [iV y15.id, iV y15.until_, iV y15.cap, .bool y15.queued])], []⟩ (fgk (by kernel_rfl)) (reg_ (st (mv_ rfl tv (st (c_ (cp_ ⟨tv, tv⟩ rfl tv) (st (c_ (cp_ ⟨tv, tv⟩ rfl (nl rfl)) (st (mkS_ ⟨tv, tv⟩ ⟨⟨nl rfl, rfl, rfl⟩, tv⟩ ?_))))))))))))))))))
   obtain ⟨c17, h1⟩ := grd h1
   refine st (app_ (e := eI) (l0 := p5) (l1 := ([y15.id] : List Int)) rfl rfl tv rfl (by decide) c17 (st (mv_ rfl tv (oe_ (bn_ (wk_ ⟨[(3, .own 192 0 1 ((p5 ++ ([y15.id] : List Int)).map eI)), (7, .lst 4 (a0.list_.map eDLease)), (8, iV (a0.list_.length : Int)), (9, iV p6)], [], []⟩ (fgk (by kernel_rfl)) (reg_ (st (c_ (cp_ t3 rfl tv) (st (mv_ rfl tv (oe_ ?_))))))))))))
   obtain rfl := Option.some.inj h1
   exact hK1 _ rfl _ ⟨[(3, .own 192 0 1 ((p5 ++ ([y15.id] : List Int)).map eI)), (7, .lst 4 (a0.list_.map eDLease)), (8, iV (a0.list_.length : Int)), (9, iV (IntKind.i64.wrap (p6 + 1)))], [], []⟩ (fgk (by kernel_rfl)) rfl
  ·replace h1 := inb c14 h1
   obtain rfl := Option.some.inj h1
   obtain rfl := hx1 _ rfl
   refine exQ rfl ?_
   exact hE1 _ ⟨[(3, .own 192 0 1 (p5.map eI))], [], []⟩ (fgk (by kernel_rfl)) ⟨_, rfl, rfl⟩

/- slices.IndexFunc[[]loop.example/g00149/impl.Lease,loop.example/g00149/impl.Lease] -/
def c108_r0 : List Ins := [⟨some 4, .p (.mv (.c (iV 0))), none⟩]
def c108_r1 : List Ins := [(iQ 6 (.mv (.t 0))),
(iQ 7 (.len (.t 6))),
⟨some 8, .p (.mv (.c (iV 0))), none⟩]
def c108_r2 : List Ins := [(iQ 9 (.bin .lss (.t 8) (.t 7)))]
def c108_r3 : List Ins := [(iQ 10 (.mv (.t 8))),
(iQ 5 (.mv (.t 10)))]
def c108_r4 : List Ins := [(iQ 11 (.mv (.t 1))),
(iQ 12 (.mv (.t 0))),
(iQ 13 (.mv (.t 5))),
(iQ 14 (.idxA (.t 12) (.t 13) 4)),
(iQ 15 (.load (.t 14) 4 true)),
⟨some 16, .callv (.t 11) [(.t 15)], none⟩]
def c108_r5 : List Ins := [(iQ 17 (.mv (.t 5))),
(iQ 4 (.mv (.t 17)))]
def c108_r6 : List Ins := [⟨some 18, .p (.bin .add (.t 8) (.c (iV 1))), none⟩,
(iQ 8 (.mv (.t 18)))]
def c108_l0 : IR := (.seq (.reg c108_r2) (.seq (.ite (.t 9) .skip (.exit 0)) (.seq (.block 1 (.seq (.reg c108_r3) (.seq (.reg c108_r4) (.ite (.t 16) (.seq (.reg c108_r5) .ret) .skip)))) (.reg c108_r6))))
def c108_r7 : List Ins := [⟨some 4, .p (.mv (.c (iV (-1)))), none⟩]
def c108 : XFn := { np := 2, nt := 19, res := [.t 4], body := (.seq (.reg c108_r0) (.seq (.seq (.reg c108_r1) (.block 0 (.loop c108_l0))) (.seq (.reg c108_r7) .ret))) }
def K108 (C : CRel) : Prop := ∀ (a0 : List DLease) (f1 : Nat) (k1 : List V) (is1 : DLease → Option Bool) (hs1 : Shut k1) (hf1 : ∀ (x0 : DLease) r, is1 x0 = some r → C f1 ⟨.agg (eDLease x0) :: k1, []⟩ ⟨.bool r, [], []⟩) (r : Int), g108 a0 is1 = some r → C 108 ⟨[.lst 4 (a0.map eDLease), .clo f1 k1], []⟩ ⟨iV r, [], []⟩
theorem F108 {C : CRel}  (a0 : List DLease) (f1 : Nat) (k1 : List V) (is1 : DLease → Option Bool) (hs1 : Shut k1) (hf1 : ∀ (x0 : DLease) r, is1 x0 = some r → C f1 ⟨.agg (eDLease x0) :: k1, []⟩ ⟨.bool r, [], []⟩) (r : Int) (h0 : g108 a0 is1 = some r) : FnOK C c108 ⟨[.lst 4 (a0.map eDLease), .clo f1 k1], []⟩ ⟨iV r, [], []⟩ := by
 refine fn_ (nl rfl) (seq_ (reg_ (st (mvc_ tv (oe_ (wk_ ⟨[(0, .lst 4 (a0.map eDLease)), (1, .clo f1 k1)], [], []⟩ (fg ⟨rfl, rfl, tv⟩ tv) (seq_ (seq_ (reg_ (st (mv_ rfl tv (st (c_ (clenL (e := eDLease) (l0 := a0) rfl rfl tv) (st (mvc_ tv (oe_ (wk_ ⟨[(0, .lst 4 (a0.map eDLease)), (1, .clo f1 k1), (7, iV (a0.length : Int)), (8, iV 0)], [], []⟩ (fg ⟨rfl, rfl, rfl, rfl, tv⟩ tv) (block_ ?_))))))))))))))))))
 obtain ⟨r21, e22, h0⟩ := bnd h0
 refine loop_ (R := (fun S => .inl () = r21 ∧ S = ⟨[], [], []⟩)) (g108_l0 a0 is1) (fun s S => match s with | p7 => S = ⟨[(0, .lst 4 (a0.map eDLease)), (1, .clo f1 k1), (7, iV (a0.length : Int)), (8, iV p7)], [], []⟩) e22 ⟨[(0, .lst 4 (a0.map eDLease)), (1, .clo f1 k1), (7, iV (a0.length : Int)), (8, iV 0)], [], []⟩ (fg ⟨rfl, rfl, rfl, rfl, tv⟩ tv) rfl 0 (fun _ => rfl) ?_ ?_
 ·rintro S _ hfg ⟨rfl, rfl⟩
  refine wk_ ⟨[], [], []⟩ (fglk hfg (by kernel_rfl)) (seq_ (reg_ (st (mvc_ tv (oe_ (wk_ ⟨[(4, iV (-1))], [], []⟩ (fgk (by kernel_rfl)) ?_))))))
  obtain rfl := Option.some.inj h0
  exact rt_ (ret_ rfl rfl rfl rfl rfl tv)
 ·rintro p7 o1 _ K1 rfl h1 hx1 hK1 hE1 hR1
  refine seq_ (reg_ (st (c_ (cp_ t3 rfl tv) (oe_ (wk_ ⟨[(0, .lst 4 (a0.map eDLease)), (1, .clo f1 k1), (7, iV (a0.length : Int)), (8, iV p7), (9, .bool (decide (p7 < (a0.length : Int))))], [], []⟩ (fg ⟨rfl, rfl, rfl, rfl, rfl, tv⟩ tv) (seq_ (ite_ (cb := (decide (p7 < (a0.length : Int)))) rfl (fun c15 => ?_) (fun c15 => ?_))))))))
  ·replace h1 := ip c15 h1
   refine sk_ (wk_ ⟨[(0, .lst 4 (a0.map eDLease)), (1, .clo f1 k1), (7, iV (a0.length : Int)), (8, iV p7)], [], []⟩ (fg ⟨rfl, rfl, rfl, rfl, tv⟩ tv) (seq_ (block_ (seq_ (reg_ (st (mv_ rfl tv (st (mv_ rfl tv (oe_ (wk_ ⟨[(0, .lst 4 (a0.map eDLease)), (1, .clo f1 k1), (5, iV p7), (7, iV (a0.length : Int)), (8, iV p7)], [], []⟩ (fg ⟨rfl, rfl, rfl, rfl, rfl, tv⟩ tv) (seq_ (reg_ (st (mv_ rfl tv (st (mv_ rfl tv (st (mv_ rfl tv ?_)))))))))))))))))))
   obtain ⟨y16, e17, h1⟩ := bnd h1
   refine st (c_ (cidxL (e := eDLease) (y := y16) rfl rfl tv rfl rfl tv e17) (st (c_ (v := .agg (eDLease y16)) (cp_ ⟨tv, tv⟩ rfl (nl rfl)) ?_)))
   obtain ⟨r18, e19, h1⟩ := bnd h1
   refine st (callv0_ (r := .bool r18) rfl false (hf1 _ r18 e19) ⟨tv, tv⟩ (and_ rfl hs1.2.2.1) (mapc1 rfl (hs1.2.1 _ _ _ _ _)) (fun _ => rfl) (oe_ (wk_ ⟨[(0, .lst 4 (a0.map eDLease)), (1, .clo f1 k1), (5, iV p7), (7, iV (a0.length : Int)), (8, iV p7), (16, .bool r18)], [], []⟩ (fg ⟨rfl, rfl, rfl, rfl, rfl, rfl, tv⟩ tv) (ite_ (cb := r18) rfl (fun c20 => ?_) (fun c20 => ?_)))))
   ·replace h1 := ip c20 h1
    refine seq_ (reg_ (st (mv_ rfl tv (st (mv_ rfl tv (oe_ (wk_ ⟨[(4, iV p7)], [], []⟩ (fgk (by kernel_rfl)) ?_)))))))
    obtain rfl := Option.some.inj h1
    obtain rfl := hx1 _ rfl
    obtain rfl := Option.some.inj h0
    exact rt_ (hR1 _ (ret_ rfl rfl rfl rfl rfl tv))
   ·replace h1 := inb c20 h1
    refine sk_ (bn_ (wk_ ⟨[(0, .lst 4 (a0.map eDLease)), (1, .clo f1 k1), (7, iV (a0.length : Int)), (8, iV p7)], [], []⟩ (fg ⟨rfl, rfl, rfl, rfl, tv⟩ tv) (reg_ (st (c_ (cp_ t3 rfl tv) (st (mv_ rfl tv (oe_ ?_))))))))
    obtain rfl := Option.some.inj h1
    exact hK1 _ rfl _ ⟨[(0, .lst 4 (a0.map eDLease)), (1, .clo f1 k1), (7, iV (a0.length : Int)), (8, iV (IntKind.i64.wrap (p7 + 1)))], [], []⟩ (fg ⟨rfl, rfl, rfl, rfl, tv⟩ tv) rfl
  ·replace h1 := inb c15 h1
   obtain rfl := Option.some.inj h1
   obtain rfl := hx1 _ rfl
   refine exQ rfl ?_
   exact hE1 _ ⟨[], [], []⟩ (fgk (by kernel_rfl)) ⟨rfl, rfl⟩

/- slices.ContainsFunc[[]loop.example/g00149/impl.Lease,loop.example/g00149/impl.Lease] -/
def c105_r0 : List Ins := [⟨some 4, .p (.mv (.c (.bool false))), none⟩]
def c105_r1 : List Ins := [(iQ 5 (.mv (.t 0))),
(iQ 6 (.mv (.t 1))),
⟨some 7, .call 108 [(.t 5), (.t 6)], none⟩,
⟨some 8, .p (.bin .geq (.t 7) (.c (iV 0))), none⟩,
(iQ 4 (.mv (.t 8)))]
def c105 : XFn := { np := 2, nt := 9, res := [.t 4], body := (.seq (.reg c105_r0) (.seq (.reg c105_r1) .ret)) }
def K105 (C : CRel) : Prop := ∀ (a0 : List DLease) (f1 : Nat) (k1 : List V) (is1 : DLease → Option Bool) (hs1 : Shut k1) (hf1 : ∀ (x0 : DLease) r, is1 x0 = some r → C f1 ⟨.agg (eDLease x0) :: k1, []⟩ ⟨.bool r, [], []⟩) (r : Bool), g105 a0 is1 = some r → C 105 ⟨[.lst 4 (a0.map eDLease), .clo f1 k1], []⟩ ⟨.bool r, [], []⟩
theorem F105 {C : CRel} (H108 : K108 C) (a0 : List DLease) (f1 : Nat) (k1 : List V) (is1 : DLease → Option Bool) (hs1 : Shut k1) (hf1 : ∀ (x0 : DLease) r, is1 x0 = some r → C f1 ⟨.agg (eDLease x0) :: k1, []⟩ ⟨.bool r, [], []⟩) (r : Bool) (h0 : g105 a0 is1 = some r) : FnOK C c105 ⟨[.lst 4 (a0.map eDLease), .clo f1 k1], []⟩ ⟨.bool r, [], []⟩ := by
 refine fn_ (nl rfl) (seq_ (reg_ (st (mvc_ tv (oe_ (wk_ ⟨[(0, .lst 4 (a0.map eDLease)), (1, .clo f1 k1)], [], []⟩ (fg ⟨rfl, rfl, tv⟩ tv) (seq_ (reg_ (st (mv_ rfl tv (st (mv_ rfl tv ?_))))))))))))
 obtain ⟨r1, e2, h0⟩ := bnd h0
 refine st (call0_ (r := iV r1) false (H108 a0 f1 k1 is1 hs1 hf1 r1 e2) ⟨tv, tv, tv⟩ rfl (mapc1 rfl (mapc1 (clo_sh hs1) rfl)) (fun _ => rfl) (st (c_ (cp_ t3 rfl tv) (st (mv_ rfl tv (oe_ (wk_ ⟨[(4, .bool (decide (r1 ≥ 0)))], [], []⟩ (fgk (by kernel_rfl)) ?_)))))))
 obtain rfl := Option.some.inj h0
 exact rt_ (ret_ rfl rfl rfl rfl rfl tv)
end Go.Ev
