/- The walks of functions: the code comes to the answers that QgD tells. Written by a program of ours. -/
import Derived.Test.YtdmclbbhhcpjfaaQgW0
set_option linter.all false
set_option maxHeartbeats 4000000
set_option linter.unusedVariables false
set_option maxRecDepth 100000
namespace Go.Ev

/- loop.example/g00149/spec.VaultOK -/
def c46_r0 : List Ins := [⟨some 1, .box (.t 0), none⟩,
⟨some 2, .p (.mv (.c (.bool false))), none⟩]
def c46_r1 : List Ins := [(iQ 5 (.fieldA (.t 1) 0)),
(iQ 6 (.load (.t 5) 3 true)),
⟨some 7, .call 18 [(.t 6)], none⟩,
(iQ 8 (.un .not (.t 7))),
(iQ 9 (.mv (.t 8))),
⟨some 10, .p (.fieldA (.t 1) 3), some (9, false)⟩,
⟨some 11, .p (.load (.t 10) 1 false), some (9, false)⟩,
⟨some 12, .p (.len (.t 11)), some (9, false)⟩,
⟨some 13, .p (.bin .gtr (.t 12) (.c (iV 40))), some (9, false)⟩,
⟨some 14, .pick (.t 9) (.c (.bool true)) (.t 13), none⟩,
(iQ 15 (.mv (.t 14))),
⟨some 16, .p (.fieldA (.t 1) 4), some (15, false)⟩,
⟨some 17, .p (.load (.t 16) 1 false), some (15, false)⟩,
⟨some 18, .p (.len (.t 17)), some (15, false)⟩,
⟨some 19, .p (.bin .gtr (.t 18) (.c (iV 80))), some (15, false)⟩,
⟨some 20, .pick (.t 15) (.c (.bool true)) (.t 19), none⟩,
(iQ 21 (.mv (.t 20))),
⟨some 22, .p (.fieldA (.t 1) 4), some (21, false)⟩,
⟨some 23, .p (.load (.t 22) 1 false), some (21, false)⟩,
⟨some 24, .p (.fieldA (.t 1) 0), some (21, false)⟩,
⟨some 25, .p (.fieldA (.t 24) 1), some (21, false)⟩,
⟨some 26, .p (.load (.t 25) 1 false), some (21, false)⟩,
⟨some 27, .call 85 [(.t 23), (.t 26)], some (21, false)⟩,
⟨some 28, .p (.un .not (.t 27)), some (21, false)⟩,
⟨some 29, .pick (.t 21) (.c (.bool true)) (.t 28), none⟩]
def c46_r2 : List Ins := [⟨some 2, .p (.mv (.c (.bool false))), none⟩]
def c46_r3 : List Ins := [⟨some 3, .p (.mv (.c (iV 0))), none⟩]
def c46_r4 : List Ins := [(iQ 30 (.mv (.t 3))),
(iQ 31 (.fieldA (.t 1) 3)),
(iQ 32 (.load (.t 31) 1 false)),
(iQ 33 (.len (.t 32))),
(iQ 34 (.bin .lss (.t 30) (.t 33)))]
def c46_r5 : List Ins := [(iQ 37 (.fieldA (.t 1) 3)),
(iQ 38 (.load (.t 37) 1 false)),
(iQ 39 (.mv (.t 3))),
(iQ 40 (.idxA (.t 38) (.t 39) 2)),
(iQ 41 (.fieldA (.t 40) 0)),
(iQ 42 (.load (.t 41) 1 false)),
(iQ 4 (.mv (.t 42)))]
def c46_r6 : List Ins := [(iQ 43 (.mv (.t 4))),
(iQ 44 (.fieldA (.t 1) 0)),
(iQ 45 (.fieldA (.t 44) 1)),
(iQ 46 (.load (.t 45) 1 false)),
⟨some 47, .p (.bin .sub (.t 46) (.c (iV 1))), none⟩,
⟨some 48, .call 56 [(.t 43), (.c (iV 1)), (.t 47)], none⟩,
(iQ 49 (.un .not (.t 48))),
(iQ 50 (.mv (.t 49))),
⟨some 51, .p (.mv (.t 3)), some (50, false)⟩,
⟨some 52, .p (.bin .gtr (.t 51) (.c (iV 0))), some (50, false)⟩,
⟨some 53, .p (.mv (.t 52)), some (50, false)⟩,
⟨some 54, .p (.fieldA (.t 1) 3), some (53, true)⟩,
⟨some 55, .p (.load (.t 54) 1 false), some (53, true)⟩,
⟨some 56, .p (.mv (.t 3)), some (53, true)⟩,
⟨some 57, .p (.bin .sub (.t 56) (.c (iV 1))), some (53, true)⟩,
⟨some 58, .p (.idxA (.t 55) (.t 57) 2), some (53, true)⟩,
⟨some 59, .p (.fieldA (.t 58) 0), some (53, true)⟩,
⟨some 60, .p (.load (.t 59) 1 false), some (53, true)⟩,
⟨some 61, .p (.mv (.t 4)), some (53, true)⟩,
⟨some 62, .p (.bin .geq (.t 60) (.t 61)), some (53, true)⟩,
⟨some 63, .pick (.t 53) (.t 62) (.c (.bool false)), some (50, false)⟩,
⟨some 64, .pick (.t 50) (.c (.bool true)) (.t 63), none⟩,
(iQ 65 (.mv (.t 64))),
⟨some 66, .p (.fieldA (.t 1) 0), some (65, false)⟩,
⟨some 67, .p (.load (.t 66) 3 true), some (65, false)⟩,
⟨some 68, .p (.mv (.t 4)), some (65, false)⟩,
⟨some 69, .call 92 [(.t 67), (.t 68)], some (65, false)⟩,
⟨some 70, .p (.bin .geq (.t 69) (.c (iV 0))), some (65, false)⟩,
⟨some 71, .pick (.t 65) (.c (.bool true)) (.t 70), none⟩]
def c46_r7 : List Ins := [⟨some 2, .p (.mv (.c (.bool false))), none⟩]
def c46_r8 : List Ins := [(iQ 35 (.mv (.t 3))),
⟨some 36, .p (.bin .add (.t 35) (.c (iV 1))), none⟩,
(iQ 3 (.mv (.t 36)))]
def c46_l0 : IR := (.seq (.seq (.reg c46_r4) (.ite (.t 34) .skip (.exit 0))) (.seq (.block 1 (.seq (.reg c46_r5) (.seq (.reg c46_r6) (.ite (.t 71) (.seq (.reg c46_r7) .ret) .skip)))) (.reg c46_r8)))
def c46_r9 : List Ins := [(iQ 72 (.load (.t 1) 6 true)),
⟨some 73, .call 93 [(.t 72)], none⟩,
⟨some 74, .p (.bin .eql (.t 73) (.c (iV 0))), none⟩,
(iQ 2 (.mv (.t 74)))]
def c46 : XFn := { np := 1, nt := 75, res := [.t 2], body := (.seq (.reg c46_r0) (.seq (.seq (.reg c46_r1) (.ite (.t 29) (.seq (.reg c46_r2) .ret) .skip)) (.seq (.seq (.reg c46_r3) (.block 0 (.loop c46_l0))) (.seq (.reg c46_r9) .ret)))) }
def K46 (C : CRel) : Prop := ∀ (a0 : DVault) (r : Bool), g46 a0 = some r → C 46 ⟨[.agg (eDVault a0)], []⟩ ⟨.bool r, [], []⟩
theorem F46 {C : CRel} (H18 : K18 C) (H56 : K56 C) (H85 : K85 C) (H92 : K92 C) (H93 : K93 C) (a0 : DVault) (r : Bool) (h0 : g46 a0 = some r) : FnOK C c46 ⟨[.agg (eDVault a0)], []⟩ ⟨.bool r, [], []⟩ := by
 refine fn_ (nl rfl) (seq_ (reg_ (st (box_ rfl tv rfl (st (mvc_ tv (oe_ (wk_ ⟨[(1, .ptr 64 0)], [(64, [iV a0.table.clock, iV a0.table.next, .lst 4 (a0.table.list_.map eDLease), .lst 2 (a0.intents.map eDIntent), .lst 1 (a0.accounts.map eI), .bool a0.sealed])], []⟩ (fgk (by kernel_rfl)) (seq_ (seq_ (reg_ (st (c_ (cp_ ⟨tv, tv⟩ rfl tv) (st (c_ (v := .agg [iV a0.table.clock, iV a0.table.next, .lst 4 (a0.table.list_.map eDLease)]) (cp_ ⟨tv, tv⟩ rfl (nl rfl)) ?_)))))))))))))))
 obtain ⟨r1, e2, h0⟩ := bnd h0
 refine st (call0_ (r := .bool r1) false (H18 a0.table r1 e2) ⟨tv, tv⟩ rfl rfl (fun _ => rfl) (st (c_ (cp_ ⟨tv, tv⟩ rfl tv) (st (mv_ rfl tv (st (pg_ (u := .ptr 64 3) rfl (fun hg => (cp_ ⟨tv, tv⟩ rfl tv)) (st (pg_ (u := .lst 2 (a0.intents.map eDIntent)) rfl (fun hg => (cp_ ⟨(fun _ => hg), tv⟩ rfl (nl rfl))) (st (pg_ (u := iV (a0.intents.length : Int)) rfl (fun hg => (clenL (e := eDIntent) (l0 := a0.intents) rfl rfl (fun _ => hg))) (st (pg_ (u := .bool (decide ((a0.intents.length : Int) > 40))) rfl (fun hg => (cp_ ⟨(fun _ => hg), tv, tv⟩ rfl tv)) (st (pick_ rfl rfl rfl tv (fun h => eqf h) rfl (st (mv_ rfl tv (st (pg_ (u := .ptr 64 4) rfl (fun hg => (cp_ ⟨tv, tv⟩ rfl tv)) (sw ⟨[(1, .ptr 64 0), (15, .bool (bif (!r1) then true else (decide ((a0.intents.length : Int) > 40)))), (16, .may ((bif (!r1) then true else (decide ((a0.intents.length : Int) > 40))) == false) (.ptr 64 4))], [(64, [iV a0.table.clock, iV a0.table.next, .lst 4 (a0.table.list_.map eDLease), .lst 2 (a0.intents.map eDIntent), .lst 1 (a0.accounts.map eI), .bool a0.sealed])], []⟩ (fgk (by kernel_rfl)) (pg_ (u := .lst 1 (a0.accounts.map eI)) rfl (fun hg => (cp_ ⟨(fun _ => hg), tv⟩ rfl (nl rfl))) (st (pg_ (u := iV (a0.accounts.length : Int)) rfl (fun hg => (clenL (e := eI) (l0 := a0.accounts) rfl rfl (fun _ => hg))) (st (pg_ (u := .bool (decide ((a0.accounts.length : Int) > 80))) rfl (fun hg => (cp_ ⟨(fun _ => hg), tv, tv⟩ rfl tv)) (st (pick_ rfl rfl rfl tv (fun h => eqf h) rfl (st (mv_ rfl tv (st (pg_ (u := .ptr 64 4) rfl (fun hg => (cp_ ⟨tv, tv⟩ rfl tv)) (st (pg_ (u := .lst 1 (a0.accounts.map eI)) rfl (fun hg => (cp_ ⟨(fun _ => hg), tv⟩ rfl (nl rfl))) (st (pg_ (u := .ptr 64 0) rfl (fun hg => (cp_ ⟨tv, tv⟩ rfl tv)) (st (pg_ (u := .ptr 64 1) rfl (fun hg => (cp_ ⟨(fun _ => hg), tv⟩ rfl tv)) (st (pg_ (u := iV a0.table.next) rfl (fun hg => (cp_ ⟨(fun _ => hg), tv⟩ rfl (nl rfl))) ?_)))))))))))))))))))))))))))))))))))))))
 obtain ⟨r3, e4, h0⟩ := bnd h0
 refine sw ⟨[(1, .ptr 64 0), (21, .bool (bif (bif (!r1) then true else (decide ((a0.intents.length : Int) > 40))) then true else (decide ((a0.accounts.length : Int) > 80)))), (23, .may ((bif (bif (!r1) then true else (decide ((a0.intents.length : Int) > 40))) then true else (decide ((a0.accounts.length : Int) > 80))) == false) (.lst 1 (a0.accounts.map eI))), (26, .may ((bif (bif (!r1) then true else (decide ((a0.intents.length : Int) > 40))) then true else (decide ((a0.accounts.length : Int) > 80))) == false) (iV a0.table.next))], [(64, [iV a0.table.clock, iV a0.table.next, .lst 4 (a0.table.list_.map eDLease), .lst 2 (a0.intents.map eDIntent), .lst 1 (a0.accounts.map eI), .bool a0.sealed])], []⟩ (fgk (by kernel_rfl)) (callg_ (r := .bool r3) rfl false (fun hg => H85 a0.accounts a0.table.next r3 (ip hg e4)) ⟨(fun hg => hg), (fun hg => hg), tv⟩ (fun _ => rfl) (fun _ => rfl) (fun _ => rfl) (fun h => nomatch h) (st (pg_ (u := .bool (!r3)) rfl (fun hg => (cp_ ⟨(fun _ => hg), tv⟩ rfl tv)) (st (pick_ rfl rfl rfl tv (fun h => eqf h) rfl (oe_ ?_))))))
 obtain ⟨v5, e6, h0⟩ := bl h0
 refine wk_ ⟨[(1, .ptr 64 0), (29, .bool v5)], [(64, [iV a0.table.clock, iV a0.table.next, .lst 4 (a0.table.list_.map eDLease), .lst 2 (a0.intents.map eDIntent), .lst 1 (a0.accounts.map eI), .bool a0.sealed])], []⟩ (fgk (by subst e6; kernel_rfl)) (ite_ (cb := v5) rfl (fun c7 => ?_) (fun c7 => ?_))
 ·replace h0 := ip c7 h0
  refine seq_ (reg_ (st (mvc_ tv (oe_ (wk_ ⟨[(2, .bool false)], [], []⟩ (fgk (by kernel_rfl)) ?_)))))
  obtain rfl := Option.some.inj h0
  exact rt_ (ret_ rfl rfl rfl rfl rfl tv)
 ·replace h0 := inb c7 h0
  refine sk_ (wk_ ⟨[(1, .ptr 64 0)], [(64, [iV a0.table.clock, iV a0.table.next, .lst 4 (a0.table.list_.map eDLease), .lst 2 (a0.intents.map eDIntent), .lst 1 (a0.accounts.map eI), .bool a0.sealed])], []⟩ (fgk (by kernel_rfl)) (seq_ (seq_ (reg_ (st (mvc_ tv (oe_ (wk_ ⟨[(1, .ptr 64 0), (3, iV 0)], [(64, [iV a0.table.clock, iV a0.table.next, .lst 4 (a0.table.list_.map eDLease), .lst 2 (a0.intents.map eDIntent), .lst 1 (a0.accounts.map eI), .bool a0.sealed])], []⟩ (fgk (by kernel_rfl)) (block_ ?_)))))))))
  obtain ⟨r46, e47, h0⟩ := bnd h0
  refine loop_ (R := (fun S => .inl () = r46 ∧ S = ⟨[(1, .ptr 64 0)], [(64, [iV a0.table.clock, iV a0.table.next, .lst 4 (a0.table.list_.map eDLease), .lst 2 (a0.intents.map eDIntent), .lst 1 (a0.accounts.map eI), .bool a0.sealed])], []⟩)) (g46_l0 a0) (fun s S => match s with | p20 => S = ⟨[(1, .ptr 64 0), (3, iV p20)], [(64, [iV a0.table.clock, iV a0.table.next, .lst 4 (a0.table.list_.map eDLease), .lst 2 (a0.intents.map eDIntent), .lst 1 (a0.accounts.map eI), .bool a0.sealed])], []⟩) e47 ⟨[(1, .ptr 64 0), (3, iV 0)], [(64, [iV a0.table.clock, iV a0.table.next, .lst 4 (a0.table.list_.map eDLease), .lst 2 (a0.intents.map eDIntent), .lst 1 (a0.accounts.map eI), .bool a0.sealed])], []⟩ (fgk (by kernel_rfl)) rfl 0 (fun _ => rfl) ?_ ?_
  ·rintro S _ hfg ⟨rfl, rfl⟩
   refine wk_ ⟨[(1, .ptr 64 0)], [(64, [iV a0.table.clock, iV a0.table.next, .lst 4 (a0.table.list_.map eDLease), .lst 2 (a0.intents.map eDIntent), .lst 1 (a0.accounts.map eI), .bool a0.sealed])], []⟩ (fglk hfg (by kernel_rfl)) (seq_ (reg_ (st (c_ (v := .agg (eDVault a0)) (cp_ ⟨tv, tv⟩ rfl (nl rfl)) ?_))))
   obtain ⟨r48, e49, h0⟩ := bnd h0
   refine st (call0_ (r := iV r48) false (H93 a0 r48 e49) ⟨tv, tv⟩ rfl rfl (fun _ => rfl) (st (c_ (cp_ t3 rfl tv) (st (mv_ rfl tv (oe_ (wk_ ⟨[(2, .bool (r48 == 0))], [], []⟩ (fgk (by kernel_rfl)) ?_)))))))
   obtain rfl := Option.some.inj h0
   exact rt_ (ret_ rfl rfl rfl rfl rfl tv)
  ·rintro p20 o1 _ K1 rfl h1 hx1 hK1 hE1 hR1
   refine seq_ (seq_ (reg_ (st (mv_ rfl tv (st (c_ (cp_ ⟨tv, tv⟩ rfl tv) (st (c_ (cp_ ⟨tv, tv⟩ rfl (nl rfl)) (st (c_ (clenL (e := eDIntent) (l0 := a0.intents) rfl rfl tv) (st (c_ (cp_ t3 rfl tv) (oe_ (wk_ ⟨[(1, .ptr 64 0), (3, iV p20), (34, .bool (decide (p20 < (a0.intents.length : Int))))], [(64, [iV a0.table.clock, iV a0.table.next, .lst 4 (a0.table.list_.map eDLease), .lst 2 (a0.intents.map eDIntent), .lst 1 (a0.accounts.map eI), .bool a0.sealed])], []⟩ (fgk (by kernel_rfl)) (ite_ (cb := (decide (p20 < (a0.intents.length : Int)))) rfl (fun c34 => ?_) (fun c34 => ?_))))))))))))))))
   ·replace h1 := ip c34 h1
    refine sk_ (wk_ ⟨[(1, .ptr 64 0), (3, iV p20)], [(64, [iV a0.table.clock, iV a0.table.next, .lst 4 (a0.table.list_.map eDLease), .lst 2 (a0.intents.map eDIntent), .lst 1 (a0.accounts.map eI), .bool a0.sealed])], []⟩ (fgk (by kernel_rfl)) (seq_ (block_ (seq_ (reg_ (st (c_ (cp_ ⟨tv, tv⟩ rfl tv) (st (c_ (cp_ ⟨tv, tv⟩ rfl (nl rfl)) (st (mv_ rfl tv ?_)))))))))))
    obtain ⟨y35, e36, h1⟩ := bnd h1
    refine st (c_ (cidxL (e := eDIntent) (y := y35) rfl rfl tv rfl rfl tv e36) (st (c_ (cp_ ⟨tv, tv⟩ rfl (nl rfl)) (st (c_ (cp_ ⟨tv, tv⟩ rfl (nl rfl)) (st (mv_ rfl tv (oe_ (wk_ ⟨[(1, .ptr 64 0), (3, iV p20), (4, iV y35.lease)], [(64, [iV a0.table.clock, iV a0.table.next, .lst 4 (a0.table.list_.map eDLease), .lst 2 (a0.intents.map eDIntent), .lst 1 (a0.accounts.map eI), .bool a0.sealed])], []⟩ (fgk (by kernel_rfl)) (seq_ (reg_ (st (mv_ rfl tv (st (c_ (cp_ ⟨tv, tv⟩ rfl tv) (st (c_ (cp_ ⟨tv, tv⟩ rfl tv) (st (c_ (cp_ ⟨tv, tv⟩ rfl (nl rfl)) (st (c_ (cp_ t3 rfl tv) ?_)))))))))))))))))))))
    obtain ⟨r37, e38, h1⟩ := bnd h1
    refine st (call0_ (r := .bool r37) false (H56 y35.lease 1 (IntKind.i64.wrap (a0.table.next - 1)) r37 e38) ⟨tv, tv, tv, tv⟩ rfl rfl (fun _ => rfl) (st (c_ (cp_ ⟨tv, tv⟩ rfl tv) (st (mv_ rfl tv (st (pg_ (u := iV p20) rfl (fun hg => (cmv (v := iV p20) rfl tv)) (st (pg_ (u := .bool (decide (p20 > 0))) rfl (fun hg => (cp_ ⟨(fun _ => hg), tv, tv⟩ rfl tv)) (st (pg_ (u := .bool (decide (p20 > 0))) rfl (fun hg => (cmv (v := .may ((!r37) == false) (.bool (decide (p20 > 0)))) rfl (fun _ => hg))) (st (pg_ (u := .ptr 64 3) rfl (fun hg => (cp_ ⟨tv, tv⟩ rfl tv)) (sw ⟨[(1, .ptr 64 0), (3, iV p20), (4, iV y35.lease), (50, .bool (!r37)), (53, .may ((!r37) == false) (.bool (decide (p20 > 0)))), (54, .may (((!r37) == false) && ((decide (p20 > 0)) == true)) (.ptr 64 3))], [(64, [iV a0.table.clock, iV a0.table.next, .lst 4 (a0.table.list_.map eDLease), .lst 2 (a0.intents.map eDIntent), .lst 1 (a0.accounts.map eI), .bool a0.sealed])], []⟩ (fgk (by kernel_rfl)) (pg_ (u := .lst 2 (a0.intents.map eDIntent)) rfl (fun hg => (cp_ ⟨(fun _ => hg), tv⟩ rfl (nl rfl))) (st (pg_ (u := iV p20) rfl (fun hg => (cmv (v := iV p20) rfl tv)) (st (pg_ (u := iV (IntKind.i64.wrap (p20 - 1))) rfl (fun hg => (cp_ ⟨(fun _ => hg), tv, tv⟩ rfl tv)) ?_)))))))))))))))))))
    obtain ⟨y39, e40, h1⟩ := bnd h1
    refine st (pg_ (u := .iptr [iV y39.lease, .bool y39.undo]) rfl (fun hg => (cidxL (e := eDIntent) (y := y39) rfl rfl (fun _ => hg) rfl rfl (fun _ => hg) (ip hg e40))) (st (pg_ (u := .iptr [iV y39.lease, .bool y39.undo]) rfl (fun hg => (cp_ ⟨(fun _ => hg), tv⟩ rfl (nl rfl))) (st (pg_ (u := iV y39.lease) rfl (fun hg => (cp_ ⟨(fun _ => hg), tv⟩ rfl (nl rfl))) (st (pg_ (u := iV y35.lease) rfl (fun hg => (cmv (v := iV y35.lease) rfl tv)) (st (pg_ (u := .bool (decide (y39.lease ≥ y35.lease))) rfl (fun hg => (cp_ ⟨(fun _ => hg), (fun _ => hg), tv⟩ rfl tv)) (st (pickg_ (u := .bool (bif (decide (p20 > 0)) then (decide (y39.lease ≥ y35.lease)) else false)) rfl (fun hg => cpick rfl rfl (fun _ => hg) rfl rfl (fun h => and_ hg (eqt h)) tv rfl) (st (pick_ rfl rfl rfl tv (fun h => eqf h) rfl (st (mv_ rfl tv (st (pg_ (u := .ptr 64 0) rfl (fun hg => (cp_ ⟨tv, tv⟩ rfl tv)) (st (pg_ (u := .agg [iV a0.table.clock, iV a0.table.next, .lst 4 (a0.table.list_.map eDLease)]) rfl (fun hg => (cp_ ⟨(fun _ => hg), tv⟩ rfl (nl rfl))) (st (pg_ (u := iV y35.lease) rfl (fun hg => (cmv (v := iV y35.lease) rfl tv)) ?_)))))))))))))))))))))
    obtain ⟨r41, e42, h1⟩ := bnd h1
    refine sw ⟨[(1, .ptr 64 0), (3, iV p20), (65, .bool (bif (!r37) then true else (bif (decide (p20 > 0)) then (decide (y39.lease ≥ y35.lease)) else false))), (67, .may ((bif (!r37) then true else (bif (decide (p20 > 0)) then (decide (y39.lease ≥ y35.lease)) else false)) == false) (.agg [iV a0.table.clock, iV a0.table.next, .lst 4 (a0.table.list_.map eDLease)])), (68, .may ((bif (!r37) then true else (bif (decide (p20 > 0)) then (decide (y39.lease ≥ y35.lease)) else false)) == false) (iV y35.lease))], [(64, [iV a0.table.clock, iV a0.table.next, .lst 4 (a0.table.list_.map eDLease), .lst 2 (a0.intents.map eDIntent), .lst 1 (a0.accounts.map eI), .bool a0.sealed])], []⟩ (fgk (by kernel_rfl)) (callg_ (r := iV r41) rfl false (fun hg => H92 a0.table y35.lease r41 (ip hg e42)) ⟨(fun hg => hg), (fun hg => hg), tv⟩ (fun _ => rfl) (fun _ => rfl) (fun _ => rfl) (fun h => nomatch h) (st (pg_ (u := .bool (decide (r41 ≥ 0))) rfl (fun hg => (cp_ ⟨(fun _ => hg), tv, tv⟩ rfl tv)) (st (pick_ rfl rfl rfl tv (fun h => eqf h) rfl (oe_ ?_))))))
    obtain ⟨v43, e44, h1⟩ := bl h1
    refine wk_ ⟨[(1, .ptr 64 0), (3, iV p20), (71, .bool v43)], [(64, [iV a0.table.clock, iV a0.table.next, .lst 4 (a0.table.list_.map eDLease), .lst 2 (a0.intents.map eDIntent), .lst 1 (a0.accounts.map eI), .bool a0.sealed])], []⟩ (fgk (by subst e44; kernel_rfl)) (ite_ (cb := v43) rfl (fun c45 => ?_) (fun c45 => ?_))
    ·replace h1 := ip c45 h1
     refine seq_ (reg_ (st (mvc_ tv (oe_ (wk_ ⟨[(2, .bool false)], [], []⟩ (fgk (by kernel_rfl)) ?_)))))
     obtain rfl := Option.some.inj h1
     obtain rfl := hx1 _ rfl
     obtain rfl := Option.some.inj h0
     exact rt_ (hR1 _ (ret_ rfl rfl rfl rfl rfl tv))
    ·replace h1 := inb c45 h1
     refine sk_ (bn_ (wk_ ⟨[(1, .ptr 64 0), (3, iV p20)], [(64, [iV a0.table.clock, iV a0.table.next, .lst 4 (a0.table.list_.map eDLease), .lst 2 (a0.intents.map eDIntent), .lst 1 (a0.accounts.map eI), .bool a0.sealed])], []⟩ (fgk (by kernel_rfl)) (reg_ (st (mv_ rfl tv (st (c_ (cp_ t3 rfl tv) (st (mv_ rfl tv (oe_ ?_))))))))))
     obtain rfl := Option.some.inj h1
     exact hK1 _ rfl _ ⟨[(1, .ptr 64 0), (3, iV (IntKind.i64.wrap (p20 + 1)))], [(64, [iV a0.table.clock, iV a0.table.next, .lst 4 (a0.table.list_.map eDLease), .lst 2 (a0.intents.map eDIntent), .lst 1 (a0.accounts.map eI), .bool a0.sealed])], []⟩ (fgk (by kernel_rfl)) rfl
   ·replace h1 := inb c34 h1
    obtain rfl := Option.some.inj h1
    obtain rfl := hx1 _ rfl
    refine exQ rfl ?_
    exact hE1 _ ⟨[(1, .ptr 64 0)], [(64, [iV a0.table.clock, iV a0.table.next, .lst 4 (a0.table.list_.map eDLease), .lst 2 (a0.intents.map eDIntent), .lst 1 (a0.accounts.map eI), .bool a0.sealed])], []⟩ (fgk (by kernel_rfl)) ⟨rfl, rfl⟩

/- loop.example/g00149/spec.l09Sixteen -/
def c312_r0 : List Ins := [⟨some 2, .p (.mv (.c (.str []))), none⟩]
def c312_r1 : List Ins := [⟨some 3, .p (.mv (.c (.str []))), none⟩]
def c312_r2 : List Ins := [⟨some 4, .p (.mv (.c (iV 60))), none⟩]
def c312_r3 : List Ins := [(iQ 5 (.mv (.t 4))),
⟨some 6, .p (.bin .geq (.t 5) (.c (iV 0))), none⟩]
def c312_r4 : List Ins := [(iQ 9 (.mv (.t 3))),
(iQ 10 (.mv (.t 0))),
(iQ 11 (.mv (.t 4))),
(iQ 12 (.conv .u64 (.t 11))),
(iQ 13 (.bin .shr (.t 10) (.t 12))),
⟨some 14, .p (.bin .and (.t 13) (.c (iV 15))), none⟩,
⟨some 15, .p (.idxStr (.c (.str [48, 49, 50, 51, 52, 53, 54, 55, 56, 57, 97, 98, 99, 100, 101, 102])) (.t 14)), none⟩,
(iQ 16 (.chr (.t 15))),
(iQ 17 (.bin .add (.t 9) (.t 16))),
(iQ 3 (.mv (.t 17)))]
def c312_r5 : List Ins := [(iQ 7 (.mv (.t 4))),
⟨some 8, .p (.bin .sub (.t 7) (.c (iV 4))), none⟩,
(iQ 4 (.mv (.t 8)))]
def c312_l0 : IR := (.seq (.seq (.reg c312_r3) (.ite (.t 6) .skip (.exit 0))) (.seq (.block 1 (.reg c312_r4)) (.reg c312_r5)))
def c312_r6 : List Ins := [(iQ 18 (.mv (.t 3))),
(iQ 2 (.mv (.t 18)))]
def c312 : XFn := { np := 1, nt := 19, res := [.t 2], body := (.seq (.reg c312_r0) (.seq (.reg c312_r1) (.seq (.seq (.reg c312_r2) (.block 0 (.loop c312_l0))) (.seq (.reg c312_r6) .ret)))) }
def K312 (C : CRel) : Prop := ∀ (a0 : Int) (r : (List UInt8)), g312 a0 = some r → C 312 ⟨[iV a0], []⟩ ⟨.str r, [], []⟩
theorem F312 {C : CRel}  (a0 : Int) (r : (List UInt8)) (h0 : g312 a0 = some r) : FnOK C c312 ⟨[iV a0], []⟩ ⟨.str r, [], []⟩ := by
 refine fn_ (nl rfl) (seq_ (reg_ (st (mvc_ tv (oe_ (wk_ ⟨[(0, iV a0)], [], []⟩ (fgk (by kernel_rfl)) (seq_ (reg_ (st (mvc_ tv (oe_ (wk_ ⟨[(0, iV a0), (3, .str ([] : List UInt8))], [], []⟩ (fgk (by kernel_rfl)) (seq_ (seq_ (reg_ (st (mvc_ tv (oe_ (wk_ ⟨[(0, iV a0), (3, .str ([] : List UInt8)), (4, iV 60)], [], []⟩ (fgk (by kernel_rfl)) (block_ ?_))))))))))))))))))))
 obtain ⟨r24, e25, h0⟩ := bnd h0
 refine loop_ (R := (fun S => ∃ p17 : List UInt8, p17 = r24 ∧ S = ⟨[(3, .str p17)], [], []⟩)) (g312_l0 a0) (fun s S => match s with | (p7, p8) => S = ⟨[(0, iV a0), (3, .str p7), (4, iV p8)], [], []⟩) e25 ⟨[(0, iV a0), (3, .str ([] : List UInt8)), (4, iV 60)], [], []⟩ (fgk (by kernel_rfl)) rfl 0 (fun _ => rfl) ?_ ?_
 ·rintro S _ hfg ⟨p17, rfl, rfl⟩
  refine wk_ ⟨[(3, .str p17)], [], []⟩ (fglk hfg (by kernel_rfl)) (seq_ (reg_ (st (mv_ rfl tv (st (mv_ rfl tv (oe_ (wk_ ⟨[(2, .str p17)], [], []⟩ (fgk (by kernel_rfl)) ?_))))))))
  obtain rfl := Option.some.inj h0
  exact rt_ (ret_ rfl rfl rfl rfl rfl tv)
 ·rintro ⟨p7, p8⟩ o1 _ K1 rfl h1 hx1 hK1 hE1 hR1
  refine seq_ (seq_ (reg_ (st (mv_ rfl tv (st (c_ (cp_ t3 rfl tv) (oe_ (wk_ ⟨[(0, iV a0), (3, .str p7), (4, iV p8), (6, .bool (decide (p8 ≥ 0)))], [], []⟩ (fgk (by kernel_rfl)) (ite_ (cb := (decide (p8 ≥ 0))) rfl (fun c18 => ?_) (fun c18 => ?_))))))))))
  ·replace h1 := ip c18 h1
   refine sk_ (wk_ ⟨[(0, iV a0), (3, .str p7), (4, iV p8)], [], []⟩ (fgk (by kernel_rfl)) (seq_ (block_ (reg_ (st (mv_ rfl tv (st (mv_ rfl tv (st (mv_ rfl tv (st (c_ (cp_ ⟨tv, tv⟩ rfl tv) ?_))))))))))))
   obtain ⟨c19, h1⟩ := grd h1
   refine st (c_ (cp_ ⟨tv, tv, tv⟩ rfl c19) (st (c_ (cp_ t3 rfl tv) ?_)))
   obtain ⟨y20, e21, h1⟩ := bnd h1
   refine st (c_ (cidxS (y := y20) rfl rfl tv rfl rfl tv e21) ?_)
   obtain ⟨c22, h1⟩ := grd h1
   refine st (c_ (cchr (y := y20) rfl rfl tv c22) ?_)
   obtain ⟨c23, h1⟩ := grd h1
   refine st (c_ (cp_ ⟨tv, tv, tv⟩ rfl c23) (st (mv_ rfl tv (oe_ (bn_ (wk_ ⟨[(0, iV a0), (3, .str (p7 ++ ([y20] : List UInt8))), (4, iV p8)], [], []⟩ (fgk (by kernel_rfl)) (reg_ (st (mv_ rfl tv (st (c_ (cp_ t3 rfl tv) (st (mv_ rfl tv (oe_ ?_))))))))))))))
   obtain rfl := Option.some.inj h1
   exact hK1 _ rfl _ ⟨[(0, iV a0), (3, .str (p7 ++ ([y20] : List UInt8))), (4, iV (IntKind.i64.wrap (p8 - 4)))], [], []⟩ (fgk (by kernel_rfl)) rfl
  ·replace h1 := inb c18 h1
   obtain rfl := Option.some.inj h1
   obtain rfl := hx1 _ rfl
   refine exQ rfl ?_
   exact hE1 _ ⟨[(3, .str p7)], [], []⟩ (fgk (by kernel_rfl)) ⟨_, rfl, rfl⟩

/- loop.example/g00149/spec.VaultPairs -/
def c249_r0 : List Ins := [⟨some 1, .box (.t 0), none⟩,
⟨some 2, .nilS 2, none⟩,
⟨some 3, .p (.mv (.c (iV 0))), none⟩]
def c249_r1 : List Ins := [(iQ 11 (.load (.t 1) 6 true)),
⟨some 12, .call 46 [(.t 11)], none⟩,
(iQ 13 (.un .not (.t 12)))]
def c249_r2 : List Ins := [⟨some 14, .mkS 2 [(.str []), (.str [])] 0 [], none⟩,
(iQ 2 (.mv (.t 14))),
⟨some 3, .p (.mv (.c (iV 1))), none⟩]
def c249_r3 : List Ins := [⟨some 15, .mkS 2 [(.str []), (.str [])] 0 [], none⟩,
(iQ 4 (.mv (.t 15)))]
def c249_r4 : List Ins := [⟨some 5, .p (.mv (.c (iV 0))), none⟩]
def c249_r5 : List Ins := [(iQ 16 (.mv (.t 5))),
(iQ 17 (.fieldA (.t 1) 3)),
(iQ 18 (.load (.t 17) 1 false)),
(iQ 19 (.len (.t 18))),
(iQ 20 (.bin .lss (.t 16) (.t 19)))]
def c249_r6 : List Ins := [⟨some 6, .p (.mv (.c (.str [98, 101, 103, 117, 110]))), none⟩]
def c249_r7 : List Ins := [(iQ 23 (.fieldA (.t 1) 3)),
(iQ 24 (.load (.t 23) 1 false)),
(iQ 25 (.mv (.t 5))),
(iQ 26 (.idxA (.t 24) (.t 25) 2)),
(iQ 27 (.fieldA (.t 26) 1)),
(iQ 28 (.load (.t 27) 1 false))]
def c249_r8 : List Ins := [⟨some 6, .p (.mv (.c (.str [117, 110, 100, 111]))), none⟩]
def c249_r9 : List Ins := [(iQ 29 (.mv (.t 4))),
(iQ 30 (.fieldA (.t 1) 3)),
(iQ 31 (.load (.t 30) 1 false)),
(iQ 32 (.mv (.t 5))),
(iQ 33 (.idxA (.t 31) (.t 32) 2)),
(iQ 34 (.fieldA (.t 33) 0)),
(iQ 35 (.load (.t 34) 1 false)),
⟨some 36, .call 312 [(.t 35)], none⟩,
⟨some 37, .p (.bin .add (.c (.str [105, 110, 116, 101, 110, 116, 47])) (.t 36)), none⟩,
(iQ 38 (.mv (.t 6))),
⟨some 39, .p (.build [(.str []), (.str [])] [(0, 1, (.t 37)), (1, 1, (.t 38))]), none⟩,
⟨some 40, .mkS 2 [(.str []), (.str [])] 1 [(0, (.t 39))], none⟩,
⟨some 41, .app 2 32 (.t 29) (.t 40), none⟩,
(iQ 4 (.mv (.t 41)))]
def c249_r10 : List Ins := [(iQ 21 (.mv (.t 5))),
⟨some 22, .p (.bin .add (.t 21) (.c (iV 1))), none⟩,
(iQ 5 (.mv (.t 22)))]
def c249_l0 : IR := (.seq (.seq (.reg c249_r5) (.ite (.t 20) .skip (.exit 0))) (.seq (.block 1 (.seq (.reg c249_r6) (.seq (.seq (.reg c249_r7) (.ite (.t 28) (.reg c249_r8) .skip)) (.reg c249_r9)))) (.reg c249_r10)))
def c249_r11 : List Ins := [⟨some 7, .p (.mv (.c (iV 0))), none⟩]
def c249_r12 : List Ins := [(iQ 42 (.mv (.t 7))),
(iQ 43 (.fieldA (.t 1) 0)),
(iQ 44 (.fieldA (.t 43) 2)),
(iQ 45 (.load (.t 44) 1 false)),
(iQ 46 (.len (.t 45))),
(iQ 47 (.bin .lss (.t 42) (.t 46)))]
def c249_r13 : List Ins := [(iQ 50 (.fieldA (.t 1) 0)),
(iQ 51 (.fieldA (.t 50) 2)),
(iQ 52 (.load (.t 51) 1 false)),
(iQ 53 (.mv (.t 7))),
(iQ 54 (.idxA (.t 52) (.t 53) 4)),
(iQ 55 (.load (.t 54) 4 true)),
⟨some 8, .alloc [(iV 0), (iV 0), (iV 0), (.bool false)], none⟩,
⟨none, .store (.t 8) (.t 55) 4, none⟩]
def c249_r14 : DP := (.take (iQ 56 (.fieldA (.t 8) 1))
(.take (iQ 57 (.load (.t 56) 1 false))
(.take (iQ 59 (.fieldA (.t 8) 2))
(.take (iQ 60 (.load (.t 59) 1 false))
(.alt [(iQ 60 (.load (.t 59) 1 false)), (iQ 59 (.fieldA (.t 8) 2))] ⟨some 58, .call 312 [(.t 57)], none⟩
(.alt [] ⟨some 61, .call 312 [(.t 60)], none⟩
(.take (iQ 62 (.bin .add (.t 58) (.t 61)))
(.take ⟨some 63, .p (.bin .add (.t 62) (.c (.str [108, 105, 118, 101]))), none⟩
(.take (iQ 9 (.mv (.t 63)))
.fin)))
.stop)
.stop)))))
def c249_r15 : List Ins := [(iQ 64 (.fieldA (.t 8) 3)),
(iQ 65 (.load (.t 64) 1 false))]
def c249_r16 : DP := (.take (iQ 66 (.fieldA (.t 8) 1))
(.take (iQ 67 (.load (.t 66) 1 false))
(.take (iQ 69 (.fieldA (.t 8) 2))
(.take (iQ 70 (.load (.t 69) 1 false))
(.alt [(iQ 70 (.load (.t 69) 1 false)), (iQ 69 (.fieldA (.t 8) 2))] ⟨some 68, .call 312 [(.t 67)], none⟩
(.alt [] ⟨some 71, .call 312 [(.t 70)], none⟩
(.take (iQ 72 (.bin .add (.t 68) (.t 71)))
(.take ⟨some 73, .p (.bin .add (.t 72) (.c (.str [113, 117, 101, 117, 101, 100]))), none⟩
(.take (iQ 9 (.mv (.t 73)))
.fin)))
.stop)
.stop)))))
def c249_r17 : List Ins := [(iQ 74 (.mv (.t 4))),
(iQ 75 (.fieldA (.t 8) 0)),
(iQ 76 (.load (.t 75) 1 false)),
⟨some 77, .call 312 [(.t 76)], none⟩,
⟨some 78, .p (.bin .add (.c (.str [108, 101, 97, 115, 101, 47])) (.t 77)), none⟩,
(iQ 79 (.mv (.t 9))),
⟨some 80, .p (.build [(.str []), (.str [])] [(0, 1, (.t 78)), (1, 1, (.t 79))]), none⟩,
⟨some 81, .mkS 2 [(.str []), (.str [])] 1 [(0, (.t 80))], none⟩,
⟨some 82, .app 2 32 (.t 74) (.t 81), none⟩,
(iQ 4 (.mv (.t 82)))]
def c249_r18 : List Ins := [(iQ 48 (.mv (.t 7))),
⟨some 49, .p (.bin .add (.t 48) (.c (iV 1))), none⟩,
(iQ 7 (.mv (.t 49)))]
def c249_l1 : IR := (.seq (.seq (.reg c249_r12) (.ite (.t 47) .skip (.exit 2))) (.seq (.block 3 (.seq (.reg c249_r13) (.seq (.draw c249_r14) (.seq (.seq (.reg c249_r15) (.ite (.t 65) (.draw c249_r16) .skip)) (.reg c249_r17))))) (.reg c249_r18)))
def c249_r19 : List Ins := [⟨some 10, .p (.mv (.c (.str [111, 112, 101, 110]))), none⟩]
def c249_r20 : List Ins := [(iQ 83 (.fieldA (.t 1) 5)),
(iQ 84 (.load (.t 83) 1 false))]
def c249_r21 : List Ins := [⟨some 10, .p (.mv (.c (.str [115, 101, 97, 108, 101, 100]))), none⟩]
def c249_r22 : DP := (.take (iQ 85 (.mv (.t 4)))
(.take (iQ 86 (.fieldA (.t 1) 0))
(.take (iQ 87 (.fieldA (.t 86) 0))
(.take (iQ 88 (.load (.t 87) 1 false))
(.take (iQ 90 (.fieldA (.t 1) 0))
(.take (iQ 91 (.fieldA (.t 90) 1))
(.take (iQ 92 (.load (.t 91) 1 false))
(.take (iQ 95 (.mv (.t 10)))
(.alt [(iQ 95 (.mv (.t 10))), (iQ 92 (.load (.t 91) 1 false)), (iQ 91 (.fieldA (.t 90) 1)), (iQ 90 (.fieldA (.t 1) 0)), (iQ 85 (.mv (.t 4)))] ⟨some 89, .call 312 [(.t 88)], none⟩
(.alt [(iQ 95 (.mv (.t 10))), (iQ 85 (.mv (.t 4)))] ⟨some 93, .call 312 [(.t 92)], none⟩
(.take (iQ 94 (.bin .add (.t 89) (.t 93)))
(.take (iQ 96 (.bin .add (.t 94) (.t 95)))
(.take ⟨some 97, .p (.build [(.str []), (.str [])] [(0, 1, (.c (.str [118, 97, 117, 108, 116]))), (1, 1, (.t 96))]), none⟩
(.alt [(iQ 85 (.mv (.t 4)))] ⟨some 98, .mkS 2 [(.str []), (.str [])] 1 [(0, (.t 97))], none⟩
(.alt [] ⟨some 99, .app 2 32 (.t 85) (.t 98), none⟩
(.take (iQ 2 (.mv (.t 99)))
(.take ⟨some 3, .p (.mv (.c (iV 0))), none⟩
.fin))
.stop)
.stop))))
.stop)
.stop)))))))))
def c249 : XFn := { np := 1, nt := 100, res := [.t 2, .t 3], body := (.seq (.reg c249_r0) (.seq (.seq (.reg c249_r1) (.ite (.t 13) (.seq (.reg c249_r2) .ret) .skip)) (.seq (.reg c249_r3) (.seq (.seq (.reg c249_r4) (.block 0 (.loop c249_l0))) (.seq (.seq (.reg c249_r11) (.block 2 (.loop c249_l1))) (.seq (.reg c249_r19) (.seq (.seq (.reg c249_r20) (.ite (.t 84) (.reg c249_r21) .skip)) (.seq (.draw c249_r22) .ret)))))))) }
def K249 (C : CRel) : Prop := ∀ (a0 : DVault) (r : (List DPair) × Int), g249 a0 = some r → C 249 ⟨[.agg (eDVault a0)], []⟩ ⟨.tup [.own 0 0 2 (r.1.map eDPair), iV r.2], [], []⟩
theorem F249 {C : CRel} (H46 : K46 C) (H312 : K312 C) (a0 : DVault) (r : (List DPair) × Int) (h0 : g249 a0 = some r) : FnOK C c249 ⟨[.agg (eDVault a0)], []⟩ ⟨.tup [.own 0 0 2 (r.1.map eDPair), iV r.2], [], []⟩ := by
 refine fn_ (nl rfl) (seq_ (reg_ (st (box_ rfl tv rfl (st (nilS_ (st (mvc_ tv (oe_ (wk_ ⟨[(1, .ptr 64 0)], [(64, [iV a0.table.clock, iV a0.table.next, .lst 4 (a0.table.list_.map eDLease), .lst 2 (a0.intents.map eDIntent), .lst 1 (a0.accounts.map eI), .bool a0.sealed])], []⟩ (fgk (by kernel_rfl)) (seq_ (seq_ (reg_ (st (c_ (v := .agg (eDVault a0)) (cp_ ⟨tv, tv⟩ rfl (nl rfl)) ?_)))))))))))))))
 obtain ⟨r1, e2, h0⟩ := bnd h0
 refine st (call0_ (r := .bool r1) false (H46 a0 r1 e2) ⟨tv, tv⟩ rfl rfl (fun _ => rfl) (st (c_ (cp_ ⟨tv, tv⟩ rfl tv) (oe_ (wk_ ⟨[(1, .ptr 64 0), (13, .bool (!r1))], [(64, [iV a0.table.clock, iV a0.table.next, .lst 4 (a0.table.list_.map eDLease), .lst 2 (a0.intents.map eDIntent), .lst 1 (a0.accounts.map eI), .bool a0.sealed])], []⟩ (fgk (by kernel_rfl)) (ite_ (cb := (!r1)) rfl (fun c3 => ?_) (fun c3 => ?_)))))))
 ·replace h0 := ip c3 h0
  refine seq_ (reg_ (st (mkS_ tv tv (st (mv_ rfl tv (st (mvc_ tv (oe_ (wk_ ⟨[(2, .own 896 0 2 (([] : List DPair).map eDPair)), (3, iV 1)], [], []⟩ (fgk (by kernel_rfl)) ?_)))))))))
  obtain rfl := Option.some.inj h0
  exact rt_ (ret_ rfl rfl rfl rfl rfl tv)
 ·replace h0 := inb c3 h0
  refine sk_ (wk_ ⟨[(1, .ptr 64 0)], [(64, [iV a0.table.clock, iV a0.table.next, .lst 4 (a0.table.list_.map eDLease), .lst 2 (a0.intents.map eDIntent), .lst 1 (a0.accounts.map eI), .bool a0.sealed])], []⟩ (fgk (by kernel_rfl)) (seq_ (reg_ (st (mkS_ tv tv (st (mv_ rfl tv (oe_ (wk_ ⟨[(1, .ptr 64 0), (4, .own 960 0 2 (([] : List DPair).map eDPair))], [(64, [iV a0.table.clock, iV a0.table.next, .lst 4 (a0.table.list_.map eDLease), .lst 2 (a0.intents.map eDIntent), .lst 1 (a0.accounts.map eI), .bool a0.sealed])], []⟩ (fgk (by kernel_rfl)) (seq_ (seq_ (reg_ (st (mvc_ tv (oe_ (wk_ ⟨[(1, .ptr 64 0), (4, .own 960 0 2 (([] : List DPair).map eDPair)), (5, iV 0)], [(64, [iV a0.table.clock, iV a0.table.next, .lst 4 (a0.table.list_.map eDLease), .lst 2 (a0.intents.map eDIntent), .lst 1 (a0.accounts.map eI), .bool a0.sealed])], []⟩ (fgk (by kernel_rfl)) (block_ ?_)))))))))))))))))
  obtain ⟨r50, e51, h0⟩ := bnd h0
  refine loop_ (R := (fun S => ∃ p34 : List DPair, p34 = r50 ∧ S = ⟨[(1, .ptr 64 0), (4, .own 960 0 2 (p34.map eDPair))], [(64, [iV a0.table.clock, iV a0.table.next, .lst 4 (a0.table.list_.map eDLease), .lst 2 (a0.intents.map eDIntent), .lst 1 (a0.accounts.map eI), .bool a0.sealed])], []⟩)) (g249_l0 a0) (fun s S => match s with | (p17, p18) => S = ⟨[(1, .ptr 64 0), (4, .own 960 0 2 (p17.map eDPair)), (5, iV p18)], [(64, [iV a0.table.clock, iV a0.table.next, .lst 4 (a0.table.list_.map eDLease), .lst 2 (a0.intents.map eDIntent), .lst 1 (a0.accounts.map eI), .bool a0.sealed])], []⟩) e51 ⟨[(1, .ptr 64 0), (4, .own 960 0 2 (([] : List DPair).map eDPair)), (5, iV 0)], [(64, [iV a0.table.clock, iV a0.table.next, .lst 4 (a0.table.list_.map eDLease), .lst 2 (a0.intents.map eDIntent), .lst 1 (a0.accounts.map eI), .bool a0.sealed])], []⟩ (fgk (by kernel_rfl)) rfl 0 (fun _ => rfl) ?_ ?_
  ·rintro S _ hfg ⟨p34, rfl, rfl⟩
   refine wk_ ⟨[(1, .ptr 64 0), (4, .own 960 0 2 (p34.map eDPair))], [(64, [iV a0.table.clock, iV a0.table.next, .lst 4 (a0.table.list_.map eDLease), .lst 2 (a0.intents.map eDIntent), .lst 1 (a0.accounts.map eI), .bool a0.sealed])], []⟩ (fglk hfg (by kernel_rfl)) (seq_ (seq_ (reg_ (st (mvc_ tv (oe_ (wk_ ⟨[(1, .ptr 64 0), (4, .own 960 0 2 (p34.map eDPair)), (7, iV 0)], [(64, [iV a0.table.clock, iV a0.table.next, .lst 4 (a0.table.list_.map eDLease), .lst 2 (a0.intents.map eDIntent), .lst 1 (a0.accounts.map eI), .bool a0.sealed])], []⟩ (fgk (by kernel_rfl)) (block_ ?_))))))))
   obtain ⟨r134, e135, h0⟩ := bnd h0
   refine loop_ (R := (fun S => ∃ p102 : List DPair, p102 = r134 ∧ S = ⟨[(1, .ptr 64 0), (4, .own 960 0 2 (p102.map eDPair))], [(64, [iV a0.table.clock, iV a0.table.next, .lst 4 (a0.table.list_.map eDLease), .lst 2 (a0.intents.map eDIntent), .lst 1 (a0.accounts.map eI), .bool a0.sealed])], []⟩)) (g249_l1 a0) (fun s S => match s with | (p75, p76) => S = ⟨[(1, .ptr 64 0), (4, .own 960 0 2 (p75.map eDPair)), (7, iV p76)], [(64, [iV a0.table.clock, iV a0.table.next, .lst 4 (a0.table.list_.map eDLease), .lst 2 (a0.intents.map eDIntent), .lst 1 (a0.accounts.map eI), .bool a0.sealed])], []⟩) e135 ⟨[(1, .ptr 64 0), (4, .own 960 0 2 (p34.map eDPair)), (7, iV 0)], [(64, [iV a0.table.clock, iV a0.table.next, .lst 4 (a0.table.list_.map eDLease), .lst 2 (a0.intents.map eDIntent), .lst 1 (a0.accounts.map eI), .bool a0.sealed])], []⟩ (fgk (by kernel_rfl)) rfl 2 (fun _ => rfl) ?_ ?_
   ·rintro S _ hfg ⟨p102, rfl, rfl⟩
    refine wk_ ⟨[(1, .ptr 64 0), (4, .own 960 0 2 (p102.map eDPair))], [(64, [iV a0.table.clock, iV a0.table.next, .lst 4 (a0.table.list_.map eDLease), .lst 2 (a0.intents.map eDIntent), .lst 1 (a0.accounts.map eI), .bool a0.sealed])], []⟩ (fglk hfg (by kernel_rfl)) (seq_ (reg_ (st (mvc_ tv (oe_ (wk_ ⟨[(1, .ptr 64 0), (4, .own 960 0 2 (p102.map eDPair)), (10, .str ([111, 112, 101, 110] : List UInt8))], [(64, [iV a0.table.clock, iV a0.table.next, .lst 4 (a0.table.list_.map eDLease), .lst 2 (a0.intents.map eDIntent), .lst 1 (a0.accounts.map eI), .bool a0.sealed])], []⟩ (fgk (by kernel_rfl)) (seq_ (seq_ (reg_ (st (c_ (cp_ ⟨tv, tv⟩ rfl tv) (st (c_ (cp_ ⟨tv, tv⟩ rfl (nl rfl)) (oe_ (wk_ ⟨[(1, .ptr 64 0), (4, .own 960 0 2 (p102.map eDPair)), (10, .str ([111, 112, 101, 110] : List UInt8)), (84, .bool a0.sealed)], [(64, [iV a0.table.clock, iV a0.table.next, .lst 4 (a0.table.list_.map eDLease), .lst 2 (a0.intents.map eDIntent), .lst 1 (a0.accounts.map eI), .bool a0.sealed])], []⟩ (fgk (by kernel_rfl)) (iteJ (cb := a0.sealed) (fun S => ∃ p137 : List UInt8, S = ⟨[(1, .ptr 64 0), (4, .own 960 0 2 (p102.map eDPair)), (10, .str p137)], [(64, [iV a0.table.clock, iV a0.table.next, .lst 4 (a0.table.list_.map eDLease), .lst 2 (a0.intents.map eDIntent), .lst 1 (a0.accounts.map eI), .bool a0.sealed])], []⟩ ∧ g249_j2 a0 p102 p137 = some r) rfl ?_ (fun c148 J147 => ?_) (fun c148 J147 => ?_)))))))))))))))))
    ·rintro _ ⟨p137, rfl, h0⟩
     refine wk_ ⟨[(1, .ptr 64 0), (4, .own 960 0 2 (p102.map eDPair)), (10, .str p137)], [(64, [iV a0.table.clock, iV a0.table.next, .lst 4 (a0.table.list_.map eDLease), .lst 2 (a0.intents.map eDIntent), .lst 1 (a0.accounts.map eI), .bool a0.sealed])], []⟩ (fgk (by kernel_rfl)) (seq_ ?_)
     obtain ⟨r138, e139, h0⟩ := bnd h0
     obtain ⟨r140, e141, h0⟩ := bnd h0
     obtain ⟨c142, h0⟩ := grd h0
     obtain ⟨c143, h0⟩ := grd h0
     obtain ⟨c144, h0⟩ := grd h0
     refine draw_ (dtake tv (mv_ rfl tv (⟨tv, (dtake tv (c_ (cp_ ⟨tv, tv⟩ rfl tv) (⟨tv, (dtake tv (c_ (cp_ ⟨tv, tv⟩ rfl tv) (⟨tv, (dtake tv (c_ (cp_ ⟨tv, tv⟩ rfl (nl rfl)) (⟨tv, (dtake tv (c_ (cp_ ⟨tv, tv⟩ rfl tv) (⟨tv, (dtake tv (c_ (cp_ ⟨tv, tv⟩ rfl tv) (⟨tv, (dtake tv (c_ (cp_ ⟨tv, tv⟩ rfl (nl rfl)) (⟨tv, (dtake tv (mv_ rfl tv (⟨tv, (dalt (call0_ (r := .str r138) false (H312 a0.table.clock r138 e139) ⟨tv, tv⟩ rfl rfl (fun _ => rfl) (dkw ⟨[(1, .ptr 64 0), (4, .own 960 0 2 (p102.map eDPair)), (10, .str p137), (85, .own 960 0 2 (p102.map eDPair)), (89, .str r138), (90, .ptr 64 0), (91, .ptr 64 1), (92, iV a0.table.next), (95, .str p137)], [(64, [iV a0.table.clock, iV a0.table.next, .lst 4 (a0.table.list_.map eDLease), .lst 2 (a0.intents.map eDIntent), .lst 1 (a0.accounts.map eI), .bool a0.sealed])], []⟩ (fgk (by kernel_rfl)) ⟨[], ⟨⟨.inl tv, (again1 (cmv (v := .str p137) rfl tv) rfl)⟩, ⟨.inl tv, (again1 (cp_ ⟨tv, tv⟩ rfl (nl rfl)) rfl)⟩, ⟨.inl tv, (again1 (cp_ ⟨tv, tv⟩ rfl tv) rfl)⟩, ⟨.inl tv, (again1 (cp_ ⟨tv, tv⟩ rfl tv) rfl)⟩, ⟨.inl tv, (again1 (cmv (v := .own 960 0 2 (p102.map eDPair)) rfl tv) rfl)⟩, tv⟩, tv, (dalt (call0_ (r := .str r140) false (H312 a0.table.next r140 e141) ⟨tv, tv⟩ rfl rfl (fun _ => rfl) (dkw ⟨[(4, .own 960 0 2 (p102.map eDPair)), (10, .str p137), (85, .own 960 0 2 (p102.map eDPair)), (89, .str r138), (93, .str r140), (95, .str p137)], [], []⟩ (fgk (by kernel_rfl)) ⟨[], ⟨⟨.inl tv, (again1 (cmv (v := .str p137) rfl tv) rfl)⟩, ⟨.inl tv, (again1 (cmv (v := .own 960 0 2 (p102.map eDPair)) rfl tv) rfl)⟩, tv⟩, tv, (dtake tv (c_ (cp_ ⟨tv, tv, tv⟩ rfl c142) (⟨tv, (dtake tv (c_ (cp_ ⟨tv, tv, tv⟩ rfl c143) (⟨tv, (dtake tv (c_ (v := .agg [.str ([118, 97, 117, 108, 116] : List UInt8), .str ((r138 ++ r140) ++ p137)]) (cp_ ⟨tv, tv, tv⟩ rfl ⟨⟨rfl, rfl, nl rfl⟩, ⟨rfl, rfl, nl rfl⟩, tv⟩) (⟨tv, (dalt (mkS_ ⟨tv, tv⟩ ⟨⟨nl rfl, rfl, rfl⟩, tv⟩ (dk0 ⟨[], ⟨⟨.inl tv, (again1 (cmv (v := .own 960 0 2 (p102.map eDPair)) rfl tv) rfl)⟩, tv⟩, tv, (dalt (app_ (e := eDPair) (l0 := p102) (l1 := ([(DPair.mk ([118, 97, 117, 108, 116] : List UInt8) ((r138 ++ r140) ++ p137))] : List DPair)) rfl rfl tv rfl (by decide) c144 (dk0 ⟨[], tv, tv, ?_⟩)) dstop)⟩)) dstop)⟩)))⟩)))⟩)))⟩)) dstop)⟩)) dstop)⟩)))⟩)))⟩)))⟩)))⟩)))⟩)))⟩)))⟩)))
     refine dtake tv (mv_ rfl tv (⟨tv, (dtake tv (mvc_ tv (⟨tv, (dfin ?_)⟩)))⟩))
     obtain ⟨v145, e146, h0⟩ := bl h0
     refine wk_ ⟨[(2, .own 960 0 2 (v145.map eDPair)), (3, iV 0)], [], []⟩ (fgk (by subst e146; kernel_rfl)) ?_
     obtain rfl := Option.some.inj h0
     exact rt_ (ret_ rfl rfl rfl rfl rfl tv)
    ·replace h0 := ip c148 h0
     refine reg_ (st (mvc_ tv (oe_ ?_)))
     exact J147 _ ⟨[(1, .ptr 64 0), (4, .own 960 0 2 (p102.map eDPair)), (10, .str ([115, 101, 97, 108, 101, 100] : List UInt8))], [(64, [iV a0.table.clock, iV a0.table.next, .lst 4 (a0.table.list_.map eDLease), .lst 2 (a0.intents.map eDIntent), .lst 1 (a0.accounts.map eI), .bool a0.sealed])], []⟩ (fgk (by kernel_rfl)) ⟨_, rfl, h0⟩
    ·replace h0 := inb c148 h0
     refine sk_ ?_
     exact J147 _ ⟨[(1, .ptr 64 0), (4, .own 960 0 2 (p102.map eDPair)), (10, .str ([111, 112, 101, 110] : List UInt8))], [(64, [iV a0.table.clock, iV a0.table.next, .lst 4 (a0.table.list_.map eDLease), .lst 2 (a0.intents.map eDIntent), .lst 1 (a0.accounts.map eI), .bool a0.sealed])], []⟩ (fgk (by kernel_rfl)) ⟨_, rfl, h0⟩
   ·rintro ⟨p75, p76⟩ o1 _ K1 rfl h1 hx1 hK1 hE1 hR1
    refine seq_ (seq_ (reg_ (st (mv_ rfl tv (st (c_ (cp_ ⟨tv, tv⟩ rfl tv) (st (c_ (cp_ ⟨tv, tv⟩ rfl tv) (st (c_ (cp_ ⟨tv, tv⟩ rfl (nl rfl)) (st (c_ (clenL (e := eDLease) (l0 := a0.table.list_) rfl rfl tv) (st (c_ (cp_ t3 rfl tv) (oe_ (wk_ ⟨[(1, .ptr 64 0), (4, .own 960 0 2 (p75.map eDPair)), (7, iV p76), (47, .bool (decide (p76 < (a0.table.list_.length : Int))))], [(64, [iV a0.table.clock, iV a0.table.next, .lst 4 (a0.table.list_.map eDLease), .lst 2 (a0.intents.map eDIntent), .lst 1 (a0.accounts.map eI), .bool a0.sealed])], []⟩ (fgk (by kernel_rfl)) (ite_ (cb := (decide (p76 < (a0.table.list_.length : Int)))) rfl (fun c103 => ?_) (fun c103 => ?_))))))))))))))))))
    ·replace h1 := ip c103 h1
     refine sk_ (wk_ ⟨[(1, .ptr 64 0), (4, .own 960 0 2 (p75.map eDPair)), (7, iV p76)], [(64, [iV a0.table.clock, iV a0.table.next, .lst 4 (a0.table.list_.map eDLease), .lst 2 (a0.intents.map eDIntent), .lst 1 (a0.accounts.map eI), .bool a0.sealed])], []⟩ (fgk (by kernel_rfl)) (seq_ (block_ (seq_ (reg_ (st (c_ (cp_ ⟨tv, tv⟩ rfl tv) (st (c_ (cp_ ⟨tv, tv⟩ rfl tv) (st (c_ (cp_ ⟨tv, tv⟩ rfl (nl rfl)) (st (mv_ rfl tv ?_)))))))))))))
     obtain ⟨y104, e105, h1⟩ := bnd h1
     refine st (c_ (cidxL (e := eDLease) (y := y104) rfl rfl tv rfl rfl tv e105) (st (c_ (v := .agg (eDLease y104)) (cp_ ⟨tv, tv⟩ rfl (nl rfl)) (st (alloc_ (st (stp_ rfl rfl tv rfl rfl rfl (nl rfl) (oe_ (wk_ ⟨[(1, .ptr 64 0), (4, .own 960 0 2 (p75.map eDPair)), (7, iV p76), (8, .ptr 512 0)], [(64, [iV a0.table.clock, iV a0.table.next, .lst 4 (a0.table.list_.map eDLease), .lst 2 (a0.intents.map eDIntent), .lst 1 (a0.accounts.map eI), .bool a0.sealed]), (512, [iV y104.id, iV y104.until_, iV y104.cap, .bool y104.queued])], []⟩ (fgk (by kernel_rfl)) (seq_ ?_))))))))))
     obtain ⟨r106, e107, h1⟩ := bnd h1
     obtain ⟨r108, e109, h1⟩ := bnd h1
     obtain ⟨c110, h1⟩ := grd h1
     obtain ⟨c111, h1⟩ := grd h1
     refine draw_ (dtake tv (c_ (cp_ ⟨tv, tv⟩ rfl tv) (⟨tv, (dtake tv (c_ (cp_ ⟨tv, tv⟩ rfl (nl rfl)) (⟨tv, (dtake tv (c_ (cp_ ⟨tv, tv⟩ rfl tv) (⟨tv, (dtake tv (c_ (cp_ ⟨tv, tv⟩ rfl (nl rfl)) (⟨tv, (dalt (call0_ (r := .str r106) false (H312 y104.until_ r106 e107) ⟨tv, tv⟩ rfl rfl (fun _ => rfl) (dkw ⟨[(1, .ptr 64 0), (4, .own 960 0 2 (p75.map eDPair)), (7, iV p76), (8, .ptr 512 0), (58, .str r106), (59, .ptr 512 2), (60, iV y104.cap)], [(64, [iV a0.table.clock, iV a0.table.next, .lst 4 (a0.table.list_.map eDLease), .lst 2 (a0.intents.map eDIntent), .lst 1 (a0.accounts.map eI), .bool a0.sealed]), (512, [iV y104.id, iV y104.until_, iV y104.cap, .bool y104.queued])], []⟩ (fgk (by kernel_rfl)) ⟨[], ⟨⟨.inl tv, (again1 (cp_ ⟨tv, tv⟩ rfl (nl rfl)) rfl)⟩, ⟨.inl tv, (again1 (cp_ ⟨tv, tv⟩ rfl tv) rfl)⟩, tv⟩, tv, (dalt (call0_ (r := .str r108) false (H312 y104.cap r108 e109) ⟨tv, tv⟩ rfl rfl (fun _ => rfl) (dkw ⟨[(1, .ptr 64 0), (4, .own 960 0 2 (p75.map eDPair)), (7, iV p76), (8, .ptr 512 0), (58, .str r106), (61, .str r108)], [(64, [iV a0.table.clock, iV a0.table.next, .lst 4 (a0.table.list_.map eDLease), .lst 2 (a0.intents.map eDIntent), .lst 1 (a0.accounts.map eI), .bool a0.sealed]), (512, [iV y104.id, iV y104.until_, iV y104.cap, .bool y104.queued])], []⟩ (fgk (by kernel_rfl)) ⟨[], tv, tv, (dtake tv (c_ (cp_ ⟨tv, tv, tv⟩ rfl c110) (⟨tv, (dtake tv (c_ (cp_ ⟨tv, tv, tv⟩ rfl c111) (⟨tv, (dtake tv (mv_ rfl tv (⟨tv, (dfin (wk_ ⟨[(1, .ptr 64 0), (4, .own 960 0 2 (p75.map eDPair)), (7, iV p76), (8, .ptr 512 0), (9, .str ((r106 ++ r108) ++ ([108, 105, 118, 101] : List UInt8)))], [(64, [iV a0.table.clock, iV a0.table.next, .lst 4 (a0.table.list_.map eDLease), .lst 2 (a0.intents.map eDIntent), .lst 1 (a0.accounts.map eI), .bool a0.sealed]), (512, [iV y104.id, iV y104.until_, iV y104.cap, .bool y104.queued])], []⟩ (fgk (by kernel_rfl)) (seq_ (seq_ (reg_ (st (c_ (cp_ ⟨tv, tv⟩ rfl tv) (st (c_ (cp_ ⟨tv, tv⟩ rfl (nl rfl)) (oe_ (wk_ ⟨[(1, .ptr 64 0), (4, .own 960 0 2 (p75.map eDPair)), (7, iV p76), (8, .ptr 512 0), (9, .str ((r106 ++ r108) ++ ([108, 105, 118, 101] : List UInt8))), (65, .bool y104.queued)], [(64, [iV a0.table.clock, iV a0.table.next, .lst 4 (a0.table.list_.map eDLease), .lst 2 (a0.intents.map eDIntent), .lst 1 (a0.accounts.map eI), .bool a0.sealed]), (512, [iV y104.id, iV y104.until_, iV y104.cap, .bool y104.queued])], []⟩ (fgk (by kernel_rfl)) (iteJ (cb := y104.queued) (fun S => ∃ p119 : List UInt8, S = ⟨[(1, .ptr 64 0), (4, .own 960 0 2 (p75.map eDPair)), (7, iV p76), (8, .ptr 512 0), (9, .str p119)], [(64, [iV a0.table.clock, iV a0.table.next, .lst 4 (a0.table.list_.map eDLease), .lst 2 (a0.intents.map eDIntent), .lst 1 (a0.accounts.map eI), .bool a0.sealed]), (512, [iV y104.id, iV y104.until_, iV y104.cap, .bool y104.queued])], []⟩ ∧ g249_j1 p75 p76 y104 p119 = some o1) rfl ?_ (fun c127 J126 => ?_) (fun c127 J126 => ?_)))))))))))))⟩)))⟩)))⟩)))⟩)) dstop)⟩)) dstop)⟩)))⟩)))⟩)))⟩)))
     ·rintro _ ⟨p119, rfl, h1⟩
      refine wk_ ⟨[(1, .ptr 64 0), (4, .own 960 0 2 (p75.map eDPair)), (7, iV p76), (8, .ptr 512 0), (9, .str p119)], [(64, [iV a0.table.clock, iV a0.table.next, .lst 4 (a0.table.list_.map eDLease), .lst 2 (a0.intents.map eDIntent), .lst 1 (a0.accounts.map eI), .bool a0.sealed]), (512, [iV y104.id, iV y104.until_, iV y104.cap, .bool y104.queued])], []⟩ (fgk (by kernel_rfl)) (reg_ (st (mv_ rfl tv (st (c_ (cp_ ⟨tv, tv⟩ rfl tv) (st (c_ (cp_ ⟨tv, tv⟩ rfl (nl rfl)) ?_)))))))
      obtain ⟨r120, e121, h1⟩ := bnd h1
      refine st (call0_ (r := .str r120) false (H312 y104.id r120 e121) ⟨tv, tv⟩ rfl rfl (fun _ => rfl) ?_)
      obtain ⟨c122, h1⟩ := grd h1
      refine st (c_ (cp_ ⟨tv, tv, tv⟩ rfl c122) (st (mv_ rfl tv (st (c_ (v := .agg [.str (([108, 101, 97, 115, 101, 47] : List UInt8) ++ r120), .str p119]) (cp_ ⟨tv, tv, tv⟩ rfl ⟨⟨rfl, rfl, nl rfl⟩, ⟨rfl, rfl, nl rfl⟩, tv⟩) (st (mkS_ ⟨tv, tv⟩ ⟨⟨nl rfl, rfl, rfl⟩, tv⟩ ?_)))))))
      obtain ⟨c123, h1⟩ := grd h1
      refine st (app_ (e := eDPair) (l0 := p75) (l1 := ([(DPair.mk (([108, 101, 97, 115, 101, 47] : List UInt8) ++ r120) p119)] : List DPair)) rfl rfl tv rfl (by decide) c123 (sw ⟨[(1, .ptr 64 0), (7, iV p76), (82, .own 960 0 2 ((p75 ++ ([(DPair.mk (([108, 101, 97, 115, 101, 47] : List UInt8) ++ r120) p119)] : List DPair)).map eDPair))], [(64, [iV a0.table.clock, iV a0.table.next, .lst 4 (a0.table.list_.map eDLease), .lst 2 (a0.intents.map eDIntent), .lst 1 (a0.accounts.map eI), .bool a0.sealed])], []⟩ (fgk (by kernel_rfl)) (mv_ rfl tv (oe_ (bn_ ?_)))))
      obtain ⟨v124, e125, h1⟩ := bl h1
      refine wk_ ⟨[(1, .ptr 64 0), (4, .own 960 0 2 (v124.map eDPair)), (7, iV p76)], [(64, [iV a0.table.clock, iV a0.table.next, .lst 4 (a0.table.list_.map eDLease), .lst 2 (a0.intents.map eDIntent), .lst 1 (a0.accounts.map eI), .bool a0.sealed])], []⟩ (fgk (by subst e125; kernel_rfl)) (reg_ (st (mv_ rfl tv (st (c_ (cp_ t3 rfl tv) (st (mv_ rfl tv (oe_ ?_))))))))
      obtain rfl := Option.some.inj h1
      exact hK1 _ rfl _ ⟨[(1, .ptr 64 0), (4, .own 960 0 2 (v124.map eDPair)), (7, iV (IntKind.i64.wrap (p76 + 1)))], [(64, [iV a0.table.clock, iV a0.table.next, .lst 4 (a0.table.list_.map eDLease), .lst 2 (a0.intents.map eDIntent), .lst 1 (a0.accounts.map eI), .bool a0.sealed])], []⟩ (fgk (by kernel_rfl)) rfl
     ·replace h1 := ip c127 h1
      obtain ⟨r128, e129, h1⟩ := bnd h1
      obtain ⟨r130, e131, h1⟩ := bnd h1
      obtain ⟨c132, h1⟩ := grd h1
      obtain ⟨c133, h1⟩ := grd h1
      refine draw_ (dtake tv (c_ (cp_ ⟨tv, tv⟩ rfl tv) (⟨tv, (dtake tv (c_ (cp_ ⟨tv, tv⟩ rfl (nl rfl)) (⟨tv, (dtake tv (c_ (cp_ ⟨tv, tv⟩ rfl tv) (⟨tv, (dtake tv (c_ (cp_ ⟨tv, tv⟩ rfl (nl rfl)) (⟨tv, (dalt (call0_ (r := .str r128) false (H312 y104.until_ r128 e129) ⟨tv, tv⟩ rfl rfl (fun _ => rfl) (dkw ⟨[(1, .ptr 64 0), (4, .own 960 0 2 (p75.map eDPair)), (7, iV p76), (8, .ptr 512 0), (9, .str ((r106 ++ r108) ++ ([108, 105, 118, 101] : List UInt8))), (68, .str r128), (69, .ptr 512 2), (70, iV y104.cap)], [(64, [iV a0.table.clock, iV a0.table.next, .lst 4 (a0.table.list_.map eDLease), .lst 2 (a0.intents.map eDIntent), .lst 1 (a0.accounts.map eI), .bool a0.sealed]), (512, [iV y104.id, iV y104.until_, iV y104.cap, .bool y104.queued])], []⟩ (fgk (by kernel_rfl)) ⟨[], ⟨⟨.inl tv, (again1 (cp_ ⟨tv, tv⟩ rfl (nl rfl)) rfl)⟩, ⟨.inl tv, (again1 (cp_ ⟨tv, tv⟩ rfl tv) rfl)⟩, tv⟩, tv, (dalt (call0_ (r := .str r130) false (H312 y104.cap r130 e131) ⟨tv, tv⟩ rfl rfl (fun _ => rfl) (dkw ⟨[(1, .ptr 64 0), (4, .own 960 0 2 (p75.map eDPair)), (7, iV p76), (8, .ptr 512 0), (9, .str ((r106 ++ r108) ++ ([108, 105, 118, 101] : List UInt8))), (68, .str r128), (71, .str r130)], [(64, [iV a0.table.clock, iV a0.table.next, .lst 4 (a0.table.list_.map eDLease), .lst 2 (a0.intents.map eDIntent), .lst 1 (a0.accounts.map eI), .bool a0.sealed]), (512, [iV y104.id, iV y104.until_, iV y104.cap, .bool y104.queued])], []⟩ (fgk (by kernel_rfl)) ⟨[], tv, tv, (dtake tv (c_ (cp_ ⟨tv, tv, tv⟩ rfl c132) (⟨tv, (dtake tv (c_ (cp_ ⟨tv, tv, tv⟩ rfl c133) (⟨tv, (dtake tv (mv_ rfl tv (⟨tv, (dfin ?_)⟩)))⟩)))⟩)))⟩)) dstop)⟩)) dstop)⟩)))⟩)))⟩)))⟩)))
      exact J126 _ ⟨[(1, .ptr 64 0), (4, .own 960 0 2 (p75.map eDPair)), (7, iV p76), (8, .ptr 512 0), (9, .str ((r128 ++ r130) ++ ([113, 117, 101, 117, 101, 100] : List UInt8)))], [(64, [iV a0.table.clock, iV a0.table.next, .lst 4 (a0.table.list_.map eDLease), .lst 2 (a0.intents.map eDIntent), .lst 1 (a0.accounts.map eI), .bool a0.sealed]), (512, [iV y104.id, iV y104.until_, iV y104.cap, .bool y104.queued])], []⟩ (fgk (by kernel_rfl)) ⟨_, rfl, h1⟩
     ·replace h1 := inb c127 h1
      refine sk_ ?_
      exact J126 _ ⟨[(1, .ptr 64 0), (4, .own 960 0 2 (p75.map eDPair)), (7, iV p76), (8, .ptr 512 0), (9, .str ((r106 ++ r108) ++ ([108, 105, 118, 101] : List UInt8)))], [(64, [iV a0.table.clock, iV a0.table.next, .lst 4 (a0.table.list_.map eDLease), .lst 2 (a0.intents.map eDIntent), .lst 1 (a0.accounts.map eI), .bool a0.sealed]), (512, [iV y104.id, iV y104.until_, iV y104.cap, .bool y104.queued])], []⟩ (fgk (by kernel_rfl)) ⟨_, rfl, h1⟩
    ·replace h1 := inb c103 h1
     obtain rfl := Option.some.inj h1
     obtain rfl := hx1 _ rfl
     refine exQ rfl ?_
     exact hE1 _ ⟨[(1, .ptr 64 0), (4, .own 960 0 2 (p75.map eDPair))], [(64, [iV a0.table.clock, iV a0.table.next, .lst 4 (a0.table.list_.map eDLease), .lst 2 (a0.intents.map eDIntent), .lst 1 (a0.accounts.map eI), .bool a0.sealed])], []⟩ (fgk (by kernel_rfl)) ⟨_, rfl, rfl⟩
  ·rintro ⟨p17, p18⟩ o1 _ K1 rfl h1 hx1 hK1 hE1 hR1
   refine seq_ (seq_ (reg_ (st (mv_ rfl tv (st (c_ (cp_ ⟨tv, tv⟩ rfl tv) (st (c_ (cp_ ⟨tv, tv⟩ rfl (nl rfl)) (st (c_ (clenL (e := eDIntent) (l0 := a0.intents) rfl rfl tv) (st (c_ (cp_ t3 rfl tv) (oe_ (wk_ ⟨[(1, .ptr 64 0), (4, .own 960 0 2 (p17.map eDPair)), (5, iV p18), (20, .bool (decide (p18 < (a0.intents.length : Int))))], [(64, [iV a0.table.clock, iV a0.table.next, .lst 4 (a0.table.list_.map eDLease), .lst 2 (a0.intents.map eDIntent), .lst 1 (a0.accounts.map eI), .bool a0.sealed])], []⟩ (fgk (by kernel_rfl)) (ite_ (cb := (decide (p18 < (a0.intents.length : Int)))) rfl (fun c35 => ?_) (fun c35 => ?_))))))))))))))))
   ·replace h1 := ip c35 h1
    refine sk_ (wk_ ⟨[(1, .ptr 64 0), (4, .own 960 0 2 (p17.map eDPair)), (5, iV p18)], [(64, [iV a0.table.clock, iV a0.table.next, .lst 4 (a0.table.list_.map eDLease), .lst 2 (a0.intents.map eDIntent), .lst 1 (a0.accounts.map eI), .bool a0.sealed])], []⟩ (fgk (by kernel_rfl)) (seq_ (block_ (seq_ (reg_ (st (mvc_ tv (oe_ (wk_ ⟨[(1, .ptr 64 0), (4, .own 960 0 2 (p17.map eDPair)), (5, iV p18), (6, .str ([98, 101, 103, 117, 110] : List UInt8))], [(64, [iV a0.table.clock, iV a0.table.next, .lst 4 (a0.table.list_.map eDLease), .lst 2 (a0.intents.map eDIntent), .lst 1 (a0.accounts.map eI), .bool a0.sealed])], []⟩ (fgk (by kernel_rfl)) (seq_ (seq_ (reg_ (st (c_ (cp_ ⟨tv, tv⟩ rfl tv) (st (c_ (cp_ ⟨tv, tv⟩ rfl (nl rfl)) (st (mv_ rfl tv ?_))))))))))))))))))
    obtain ⟨y36, e37, h1⟩ := bnd h1
    refine st (c_ (cidxL (e := eDIntent) (y := y36) rfl rfl tv rfl rfl tv e37) (st (c_ (cp_ ⟨tv, tv⟩ rfl (nl rfl)) (st (c_ (cp_ ⟨tv, tv⟩ rfl (nl rfl)) (oe_ (wk_ ⟨[(1, .ptr 64 0), (4, .own 960 0 2 (p17.map eDPair)), (5, iV p18), (6, .str ([98, 101, 103, 117, 110] : List UInt8)), (28, .bool y36.undo)], [(64, [iV a0.table.clock, iV a0.table.next, .lst 4 (a0.table.list_.map eDLease), .lst 2 (a0.intents.map eDIntent), .lst 1 (a0.accounts.map eI), .bool a0.sealed])], []⟩ (fgk (by kernel_rfl)) (iteJ (cb := y36.undo) (fun S => ∃ p39 : List UInt8, S = ⟨[(1, .ptr 64 0), (4, .own 960 0 2 (p17.map eDPair)), (5, iV p18), (6, .str p39)], [(64, [iV a0.table.clock, iV a0.table.next, .lst 4 (a0.table.list_.map eDLease), .lst 2 (a0.intents.map eDIntent), .lst 1 (a0.accounts.map eI), .bool a0.sealed])], []⟩ ∧ g249_j0 a0 p17 p18 p39 = some o1) rfl ?_ (fun c49 J48 => ?_) (fun c49 J48 => ?_)))))))))
    ·rintro _ ⟨p39, rfl, h1⟩
     refine wk_ ⟨[(1, .ptr 64 0), (4, .own 960 0 2 (p17.map eDPair)), (5, iV p18), (6, .str p39)], [(64, [iV a0.table.clock, iV a0.table.next, .lst 4 (a0.table.list_.map eDLease), .lst 2 (a0.intents.map eDIntent), .lst 1 (a0.accounts.map eI), .bool a0.sealed])], []⟩ (fgk (by kernel_rfl)) (reg_ (st (mv_ rfl tv (st (c_ (cp_ ⟨tv, tv⟩ rfl tv) (st (c_ (cp_ ⟨tv, tv⟩ rfl (nl rfl)) (st (mv_ rfl tv ?_)))))))))
     obtain ⟨y40, e41, h1⟩ := bnd h1
     refine st (c_ (cidxL (e := eDIntent) (y := y40) rfl rfl tv rfl rfl tv e41) (st (c_ (cp_ ⟨tv, tv⟩ rfl (nl rfl)) (st (c_ (cp_ ⟨tv, tv⟩ rfl (nl rfl)) ?_)))))
     obtain ⟨r42, e43, h1⟩ := bnd h1
     refine sw ⟨[(1, .ptr 64 0), (5, iV p18), (6, .str p39), (29, .own 960 0 2 (p17.map eDPair)), (35, iV y40.lease)], [(64, [iV a0.table.clock, iV a0.table.next, .lst 4 (a0.table.list_.map eDLease), .lst 2 (a0.intents.map eDIntent), .lst 1 (a0.accounts.map eI), .bool a0.sealed])], []⟩ (fgk (by kernel_rfl)) (call0_ (r := .str r42) false (H312 y40.lease r42 e43) ⟨tv, tv⟩ rfl rfl (fun _ => rfl) ?_)
     obtain ⟨c44, h1⟩ := grd h1
     refine st (c_ (cp_ ⟨tv, tv, tv⟩ rfl c44) (st (mv_ rfl tv (st (c_ (v := .agg [.str (([105, 110, 116, 101, 110, 116, 47] : List UInt8) ++ r42), .str p39]) (cp_ ⟨tv, tv, tv⟩ rfl ⟨⟨rfl, rfl, nl rfl⟩, ⟨rfl, rfl, nl rfl⟩, tv⟩) (st (mkS_ ⟨tv, tv⟩ ⟨⟨nl rfl, rfl, rfl⟩, tv⟩ ?_)))))))
     obtain ⟨c45, h1⟩ := grd h1
     refine st (app_ (e := eDPair) (l0 := p17) (l1 := ([(DPair.mk (([105, 110, 116, 101, 110, 116, 47] : List UInt8) ++ r42) p39)] : List DPair)) rfl rfl tv rfl (by decide) c45 (st (mv_ rfl tv (oe_ (bn_ ?_)))))
     obtain ⟨v46, e47, h1⟩ := bl h1
     refine wk_ ⟨[(1, .ptr 64 0), (4, .own 960 0 2 (v46.map eDPair)), (5, iV p18)], [(64, [iV a0.table.clock, iV a0.table.next, .lst 4 (a0.table.list_.map eDLease), .lst 2 (a0.intents.map eDIntent), .lst 1 (a0.accounts.map eI), .bool a0.sealed])], []⟩ (fgk (by subst e47; kernel_rfl)) (reg_ (st (mv_ rfl tv (st (c_ (cp_ t3 rfl tv) (st (mv_ rfl tv (oe_ ?_))))))))
     obtain rfl := Option.some.inj h1
     exact hK1 _ rfl _ ⟨[(1, .ptr 64 0), (4, .own 960 0 2 (v46.map eDPair)), (5, iV (IntKind.i64.wrap (p18 + 1)))], [(64, [iV a0.table.clock, iV a0.table.next, .lst 4 (a0.table.list_.map eDLease), .lst 2 (a0.intents.map eDIntent), .lst 1 (a0.accounts.map eI), .bool a0.sealed])], []⟩ (fgk (by kernel_rfl)) rfl
    ·replace h1 := ip c49 h1
     refine reg_ (st (mvc_ tv (oe_ ?_)))
     exact J48 _ ⟨[(1, .ptr 64 0), (4, .own 960 0 2 (p17.map eDPair)), (5, iV p18), (6, .str ([117, 110, 100, 111] : List UInt8))], [(64, [iV a0.table.clock, iV a0.table.next, .lst 4 (a0.table.list_.map eDLease), .lst 2 (a0.intents.map eDIntent), .lst 1 (a0.accounts.map eI), .bool a0.sealed])], []⟩ (fgk (by kernel_rfl)) ⟨_, rfl, h1⟩
    ·replace h1 := inb c49 h1
     refine sk_ ?_
     exact J48 _ ⟨[(1, .ptr 64 0), (4, .own 960 0 2 (p17.map eDPair)), (5, iV p18), (6, .str ([98, 101, 103, 117, 110] : List UInt8))], [(64, [iV a0.table.clock, iV a0.table.next, .lst 4 (a0.table.list_.map eDLease), .lst 2 (a0.intents.map eDIntent), .lst 1 (a0.accounts.map eI), .bool a0.sealed])], []⟩ (fgk (by kernel_rfl)) ⟨_, rfl, h1⟩
   ·replace h1 := inb c35 h1
    obtain rfl := Option.some.inj h1
    obtain rfl := hx1 _ rfl
    refine exQ rfl ?_
    exact hE1 _ ⟨[(1, .ptr 64 0), (4, .own 960 0 2 (p17.map eDPair))], [(64, [iV a0.table.clock, iV a0.table.next, .lst 4 (a0.table.list_.map eDLease), .lst 2 (a0.intents.map eDIntent), .lst 1 (a0.accounts.map eI), .bool a0.sealed])], []⟩ (fgk (by kernel_rfl)) ⟨_, rfl, rfl⟩

/- loop.example/g00149/impl.within -/
def c63_r0 : List Ins := [⟨some 6, .p (.mv (.c (.bool false))), none⟩]
def c63_r1 : List Ins := [(iQ 7 (.mv (.t 1))),
(iQ 8 (.mv (.t 0))),
(iQ 9 (.bin .leq (.t 7) (.t 8))),
(iQ 10 (.mv (.t 9))),
⟨some 11, .p (.mv (.t 0)), some (10, true)⟩,
⟨some 12, .p (.mv (.t 2)), some (10, true)⟩,
⟨some 13, .p (.bin .leq (.t 11) (.t 12)), some (10, true)⟩,
⟨some 14, .pick (.t 10) (.t 13) (.c (.bool false)), none⟩,
(iQ 6 (.mv (.t 14)))]
def c63 : XFn := { np := 3, nt := 15, res := [.t 6], body := (.seq (.reg c63_r0) (.seq (.reg c63_r1) .ret)) }
def K63 (C : CRel) : Prop := ∀ (a0 : Int) (a1 : Int) (a2 : Int) (r : Bool), g63 a0 a1 a2 = some r → C 63 ⟨[iV a0, iV a1, iV a2], []⟩ ⟨.bool r, [], []⟩
theorem F63 {C : CRel}  (a0 : Int) (a1 : Int) (a2 : Int) (r : Bool) (h0 : g63 a0 a1 a2 = some r) : FnOK C c63 ⟨[iV a0, iV a1, iV a2], []⟩ ⟨.bool r, [], []⟩ := by
 refine fn_ (nl rfl) (seq_ (reg_ (st (mvc_ tv (oe_ (wk_ ⟨[(0, iV a0), (1, iV a1), (2, iV a2)], [], []⟩ (fgk (by kernel_rfl)) (seq_ (reg_ (st (mv_ rfl tv (st (mv_ rfl tv (st (c_ (cp_ t3 rfl tv) (st (mv_ rfl tv (st (pg_ (u := iV a0) rfl (fun hg => (cmv (v := iV a0) rfl tv)) (st (pg_ (u := iV a2) rfl (fun hg => (cmv (v := iV a2) rfl tv)) (st (pg_ (u := .bool (decide (a0 ≤ a2))) rfl (fun hg => (cp_ ⟨(fun _ => hg), (fun _ => hg), tv⟩ rfl tv)) (st (pick_ rfl rfl rfl (fun h => eqt h) tv rfl (st (mv_ rfl tv (oe_ (wk_ ⟨[(6, .bool (bif (decide (a1 ≤ a0)) then (decide (a0 ≤ a2)) else false))], [], []⟩ (fgk (by kernel_rfl)) ?_))))))))))))))))))))))))))))
 obtain rfl := Option.some.inj h0
 exact rt_ (ret_ rfl rfl rfl rfl rfl tv)

/- loop.example/g00149/impl.isSerial -/
def c58_r0 : List Ins := [⟨some 2, .p (.mv (.c (.bool false))), none⟩]
def c58_r1 : List Ins := [(iQ 3 (.mv (.t 0))),
⟨some 4, .call 63 [(.t 3), (.c (iV 1)), (.c (iV 1000000))], none⟩,
(iQ 2 (.mv (.t 4)))]
def c58 : XFn := { np := 1, nt := 5, res := [.t 2], body := (.seq (.reg c58_r0) (.seq (.reg c58_r1) .ret)) }
def K58 (C : CRel) : Prop := ∀ (a0 : Int) (r : Bool), g58 a0 = some r → C 58 ⟨[iV a0], []⟩ ⟨.bool r, [], []⟩
theorem F58 {C : CRel} (H63 : K63 C) (a0 : Int) (r : Bool) (h0 : g58 a0 = some r) : FnOK C c58 ⟨[iV a0], []⟩ ⟨.bool r, [], []⟩ := by
 refine fn_ (nl rfl) (seq_ (reg_ (st (mvc_ tv (oe_ (wk_ ⟨[(0, iV a0)], [], []⟩ (fgk (by kernel_rfl)) (seq_ (reg_ (st (mv_ rfl tv ?_))))))))))
 obtain ⟨r1, e2, h0⟩ := bnd h0
 refine st (call0_ (r := .bool r1) false (H63 a0 1 1000000 r1 e2) ⟨tv, tv, tv, tv⟩ rfl rfl (fun _ => rfl) (st (mv_ rfl tv (oe_ (wk_ ⟨[(2, .bool r1)], [], []⟩ (fgk (by kernel_rfl)) ?_)))))
 obtain rfl := Option.some.inj h0
 exact rt_ (ret_ rfl rfl rfl rfl rfl tv)

/- loop.example/g00149/impl.rises -/
def c59_r0 : List Ins := [⟨some 6, .p (.mv (.c (.bool false))), none⟩]
def c59_r1 : List Ins := [(iQ 9 (.mv (.t 0))),
(iQ 10 (.len (.t 9))),
⟨some 11, .p (.mv (.c (iV 0))), none⟩]
def c59_r2 : List Ins := [(iQ 12 (.bin .lss (.t 11) (.t 10)))]
def c59_r3 : List Ins := [(iQ 13 (.mv (.t 11))),
(iQ 14 (.idxA (.t 9) (.t 11) 1)),
(iQ 15 (.load (.t 14) 1 false)),
(iQ 7 (.mv (.t 13))),
(iQ 8 (.mv (.t 15)))]
def c59_r4 : List Ins := [(iQ 16 (.mv (.t 8))),
(iQ 17 (.mv (.t 1))),
(iQ 18 (.mv (.t 2))),
⟨some 19, .call 63 [(.t 16), (.t 17), (.t 18)], none⟩,
(iQ 20 (.un .not (.t 19))),
(iQ 21 (.mv (.t 20))),
⟨some 22, .p (.mv (.t 7)), some (21, false)⟩,
⟨some 23, .p (.bin .gtr (.t 22) (.c (iV 0))), some (21, false)⟩,
⟨some 24, .p (.mv (.t 23)), some (21, false)⟩,
⟨some 25, .p (.mv (.t 0)), some (24, true)⟩,
⟨some 26, .p (.mv (.t 7)), some (24, true)⟩,
⟨some 27, .p (.bin .sub (.t 26) (.c (iV 1))), some (24, true)⟩,
⟨some 28, .p (.idxA (.t 25) (.t 27) 1), some (24, true)⟩,
⟨some 29, .p (.load (.t 28) 1 false), some (24, true)⟩,
⟨some 30, .p (.mv (.t 8)), some (24, true)⟩,
⟨some 31, .p (.bin .geq (.t 29) (.t 30)), some (24, true)⟩,
⟨some 32, .pick (.t 24) (.t 31) (.c (.bool false)), some (21, false)⟩,
⟨some 33, .pick (.t 21) (.c (.bool true)) (.t 32), none⟩]
def c59_r5 : List Ins := [⟨some 6, .p (.mv (.c (.bool false))), none⟩]
def c59_r6 : List Ins := [⟨some 34, .p (.bin .add (.t 11) (.c (iV 1))), none⟩,
(iQ 11 (.mv (.t 34)))]
def c59_l0 : IR := (.seq (.reg c59_r2) (.seq (.ite (.t 12) .skip (.exit 0)) (.seq (.block 1 (.seq (.reg c59_r3) (.seq (.reg c59_r4) (.ite (.t 33) (.seq (.reg c59_r5) .ret) .skip)))) (.reg c59_r6))))
def c59_r7 : List Ins := [⟨some 6, .p (.mv (.c (.bool true))), none⟩]
def c59 : XFn := { np := 3, nt := 35, res := [.t 6], body := (.seq (.reg c59_r0) (.seq (.seq (.reg c59_r1) (.block 0 (.loop c59_l0))) (.seq (.reg c59_r7) .ret))) }
def K59 (C : CRel) : Prop := ∀ (a0 : List Int) (a1 : Int) (a2 : Int) (r : Bool), g59 a0 a1 a2 = some r → C 59 ⟨[.lst 1 (a0.map eI), iV a1, iV a2], []⟩ ⟨.bool r, [], []⟩
theorem F59 {C : CRel} (H63 : K63 C) (a0 : List Int) (a1 : Int) (a2 : Int) (r : Bool) (h0 : g59 a0 a1 a2 = some r) : FnOK C c59 ⟨[.lst 1 (a0.map eI), iV a1, iV a2], []⟩ ⟨.bool r, [], []⟩ := by
 refine fn_ (nl rfl) (seq_ (reg_ (st (mvc_ tv (oe_ (wk_ ⟨[(0, .lst 1 (a0.map eI)), (1, iV a1), (2, iV a2)], [], []⟩ (fgk (by kernel_rfl)) (seq_ (seq_ (reg_ (st (mv_ rfl tv (st (c_ (clenL (e := eI) (l0 := a0) rfl rfl tv) (st (mvc_ tv (oe_ (wk_ ⟨[(0, .lst 1 (a0.map eI)), (1, iV a1), (2, iV a2), (9, .lst 1 (a0.map eI)), (10, iV (a0.length : Int)), (11, iV 0)], [], []⟩ (fgk (by kernel_rfl)) (block_ ?_))))))))))))))))))
 obtain ⟨r33, e34, h0⟩ := bnd h0
 refine loop_ (R := (fun S => .inl () = r33 ∧ S = ⟨[], [], []⟩)) (g59_l0 a0 a1 a2) (fun s S => match s with | p11 => S = ⟨[(0, .lst 1 (a0.map eI)), (1, iV a1), (2, iV a2), (9, .lst 1 (a0.map eI)), (10, iV (a0.length : Int)), (11, iV p11)], [], []⟩) e34 ⟨[(0, .lst 1 (a0.map eI)), (1, iV a1), (2, iV a2), (9, .lst 1 (a0.map eI)), (10, iV (a0.length : Int)), (11, iV 0)], [], []⟩ (fgk (by kernel_rfl)) rfl 0 (fun _ => rfl) ?_ ?_
 ·rintro S _ hfg ⟨rfl, rfl⟩
  refine wk_ ⟨[], [], []⟩ (fglk hfg (by kernel_rfl)) (seq_ (reg_ (st (mvc_ tv (oe_ (wk_ ⟨[(6, .bool true)], [], []⟩ (fgk (by kernel_rfl)) ?_))))))
  obtain rfl := Option.some.inj h0
  exact rt_ (ret_ rfl rfl rfl rfl rfl tv)
 ·rintro p11 o1 _ K1 rfl h1 hx1 hK1 hE1 hR1
  refine seq_ (reg_ (st (c_ (cp_ t3 rfl tv) (oe_ (wk_ ⟨[(0, .lst 1 (a0.map eI)), (1, iV a1), (2, iV a2), (9, .lst 1 (a0.map eI)), (10, iV (a0.length : Int)), (11, iV p11), (12, .bool (decide (p11 < (a0.length : Int))))], [], []⟩ (fgk (by kernel_rfl)) (seq_ (ite_ (cb := (decide (p11 < (a0.length : Int)))) rfl (fun c23 => ?_) (fun c23 => ?_))))))))
  ·replace h1 := ip c23 h1
   refine sk_ (wk_ ⟨[(0, .lst 1 (a0.map eI)), (1, iV a1), (2, iV a2), (9, .lst 1 (a0.map eI)), (10, iV (a0.length : Int)), (11, iV p11)], [], []⟩ (fgk (by kernel_rfl)) (seq_ (block_ (seq_ (reg_ (st (mv_ rfl tv ?_)))))))
   obtain ⟨y24, e25, h1⟩ := bnd h1
   refine st (c_ (cidxL (e := eI) (y := y24) rfl rfl tv rfl rfl tv e25) (st (c_ (cp_ ⟨tv, tv⟩ rfl (nl rfl)) (st (mv_ rfl tv (st (mv_ rfl tv (oe_ (wk_ ⟨[(0, .lst 1 (a0.map eI)), (1, iV a1), (2, iV a2), (7, iV p11), (8, iV y24), (9, .lst 1 (a0.map eI)), (10, iV (a0.length : Int)), (11, iV p11)], [], []⟩ (fgk (by kernel_rfl)) (seq_ (reg_ (st (mv_ rfl tv (st (mv_ rfl tv (st (mv_ rfl tv ?_)))))))))))))))))
   obtain ⟨r26, e27, h1⟩ := bnd h1
   refine st (call0_ (r := .bool r26) false (H63 y24 a1 a2 r26 e27) ⟨tv, tv, tv, tv⟩ rfl rfl (fun _ => rfl) (st (c_ (cp_ ⟨tv, tv⟩ rfl tv) (st (mv_ rfl tv (st (pg_ (u := iV p11) rfl (fun hg => (cmv (v := iV p11) rfl tv)) (st (pg_ (u := .bool (decide (p11 > 0))) rfl (fun hg => (cp_ ⟨(fun _ => hg), tv, tv⟩ rfl tv)) (st (pg_ (u := .bool (decide (p11 > 0))) rfl (fun hg => (cmv (v := .may ((!r26) == false) (.bool (decide (p11 > 0)))) rfl (fun _ => hg))) (st (pg_ (u := .lst 1 (a0.map eI)) rfl (fun hg => (cmv (v := .lst 1 (a0.map eI)) rfl tv)) (st (pg_ (u := iV p11) rfl (fun hg => (cmv (v := iV p11) rfl tv)) (st (pg_ (u := iV (IntKind.i64.wrap (p11 - 1))) rfl (fun hg => (cp_ ⟨(fun _ => hg), tv, tv⟩ rfl tv)) ?_)))))))))))))))))
   obtain ⟨y28, e29, h1⟩ := bnd h1
   refine sw ⟨[(0, .lst 1 (a0.map eI)), (1, iV a1), (2, iV a2), (8, iV y24), (9, .lst 1 (a0.map eI)), (10, iV (a0.length : Int)), (11, iV p11), (21, .bool (!r26)), (24, .may ((!r26) == false) (.bool (decide (p11 > 0)))), (25, .may (((!r26) == false) && ((decide (p11 > 0)) == true)) (.lst 1 (a0.map eI))), (27, .may (((!r26) == false) && ((decide (p11 > 0)) == true)) (iV (IntKind.i64.wrap (p11 - 1))))], [], []⟩ (fgk (by kernel_rfl)) (pg_ (u := .iptr [iV y28]) rfl (fun hg => (cidxL (e := eI) (y := y28) rfl rfl (fun _ => hg) rfl rfl (fun _ => hg) (ip hg e29))) (st (pg_ (u := iV y28) rfl (fun hg => (cp_ ⟨(fun _ => hg), tv⟩ rfl (nl rfl))) (st (pg_ (u := iV y24) rfl (fun hg => (cmv (v := iV y24) rfl tv)) (st (pg_ (u := .bool (decide (y28 ≥ y24))) rfl (fun hg => (cp_ ⟨(fun _ => hg), (fun _ => hg), tv⟩ rfl tv)) (st (pickg_ (u := .bool (bif (decide (p11 > 0)) then (decide (y28 ≥ y24)) else false)) rfl (fun hg => cpick rfl rfl (fun _ => hg) rfl rfl (fun h => and_ hg (eqt h)) tv rfl) (st (pick_ rfl rfl rfl tv (fun h => eqf h) rfl (oe_ ?_))))))))))))
   obtain ⟨v30, e31, h1⟩ := bl h1
   refine wk_ ⟨[(0, .lst 1 (a0.map eI)), (1, iV a1), (2, iV a2), (9, .lst 1 (a0.map eI)), (10, iV (a0.length : Int)), (11, iV p11), (33, .bool v30)], [], []⟩ (fgk (by subst e31; kernel_rfl)) (ite_ (cb := v30) rfl (fun c32 => ?_) (fun c32 => ?_))
   ·replace h1 := ip c32 h1
    refine seq_ (reg_ (st (mvc_ tv (oe_ (wk_ ⟨[(6, .bool false)], [], []⟩ (fgk (by kernel_rfl)) ?_)))))
    obtain rfl := Option.some.inj h1
    obtain rfl := hx1 _ rfl
    obtain rfl := Option.some.inj h0
    exact rt_ (hR1 _ (ret_ rfl rfl rfl rfl rfl tv))
   ·replace h1 := inb c32 h1
    refine sk_ (bn_ (wk_ ⟨[(0, .lst 1 (a0.map eI)), (1, iV a1), (2, iV a2), (9, .lst 1 (a0.map eI)), (10, iV (a0.length : Int)), (11, iV p11)], [], []⟩ (fgk (by kernel_rfl)) (reg_ (st (c_ (cp_ t3 rfl tv) (st (mv_ rfl tv (oe_ ?_))))))))
    obtain rfl := Option.some.inj h1
    exact hK1 _ rfl _ ⟨[(0, .lst 1 (a0.map eI)), (1, iV a1), (2, iV a2), (9, .lst 1 (a0.map eI)), (10, iV (a0.length : Int)), (11, iV (IntKind.i64.wrap (p11 + 1)))], [], []⟩ (fgk (by kernel_rfl)) rfl
  ·replace h1 := inb c23 h1
   obtain rfl := Option.some.inj h1
   obtain rfl := hx1 _ rfl
   refine exQ rfl ?_
   exact hE1 _ ⟨[], [], []⟩ (fgk (by kernel_rfl)) ⟨rfl, rfl⟩

/- (loop.example/g00149/impl.Table).ids -/
def c60_r0 : List Ins := [⟨some 1, .box (.t 0), none⟩,
⟨some 2, .nilS 1, none⟩]
def c60_r1 : List Ins := [⟨some 3, .nilS 1, none⟩]
def c60_r2 : List Ins := [(iQ 6 (.fieldA (.t 1) 2)),
(iQ 7 (.load (.t 6) 1 false)),
(iQ 8 (.len (.t 7))),
⟨some 9, .p (.mv (.c (iV 0))), none⟩]
def c60_r3 : List Ins := [(iQ 10 (.bin .lss (.t 9) (.t 8)))]
def c60_r4 : List Ins := [(iQ 11 (.idxA (.t 7) (.t 9) 4)),
(iQ 12 (.load (.t 11) 4 true)),
⟨some 5, .alloc [(iV 0), (iV 0), (iV 0), (.bool false)], none⟩,
⟨none, .store (.t 5) (.t 12) 4, none⟩]
def c60_r5 : List Ins := [(iQ 13 (.mv (.t 3))),
(iQ 14 (.fieldA (.t 5) 0)),
(iQ 15 (.load (.t 14) 1 false)),
⟨some 16, .mkS 1 [(iV 0)] 1 [(0, (.t 15))], none⟩,
⟨some 17, .app 1 8 (.t 13) (.t 16), none⟩,
(iQ 3 (.mv (.t 17)))]
def c60_r6 : List Ins := [⟨some 18, .p (.bin .add (.t 9) (.c (iV 1))), none⟩,
(iQ 9 (.mv (.t 18)))]
def c60_l0 : IR := (.seq (.reg c60_r3) (.seq (.ite (.t 10) .skip (.exit 0)) (.seq (.block 1 (.seq (.reg c60_r4) (.reg c60_r5))) (.reg c60_r6))))
def c60_r7 : List Ins := [(iQ 19 (.mv (.t 3))),
(iQ 2 (.mv (.t 19)))]
def c60 : XFn := { np := 1, nt := 20, res := [.t 2], body := (.seq (.reg c60_r0) (.seq (.reg c60_r1) (.seq (.seq (.reg c60_r2) (.block 0 (.loop c60_l0))) (.seq (.reg c60_r7) .ret)))) }
def K60 (C : CRel) : Prop := ∀ (a0 : DTable) (r : (List Int)), g60 a0 = some r → C 60 ⟨[.agg (eDTable a0)], []⟩ ⟨.own 0 0 1 (r.map eI), [], []⟩
theorem F60 {C : CRel}  (a0 : DTable) (r : (List Int)) (h0 : g60 a0 = some r) : FnOK C c60 ⟨[.agg (eDTable a0)], []⟩ ⟨.own 0 0 1 (r.map eI), [], []⟩ := by
 refine fn_ (nl rfl) (seq_ (reg_ (st (box_ rfl tv rfl (st (nilS_ (oe_ (wk_ ⟨[(1, .ptr 64 0)], [(64, [iV a0.clock, iV a0.next, .lst 4 (a0.list_.map eDLease)])], []⟩ (fgk (by kernel_rfl)) (seq_ (reg_ (st (nilS_ (oe_ (wk_ ⟨[(1, .ptr 64 0), (3, .own 192 0 1 ([].map eI))], [(64, [iV a0.clock, iV a0.next, .lst 4 (a0.list_.map eDLease)])], []⟩ (fgk (by kernel_rfl)) (seq_ (seq_ (reg_ (st (c_ (cp_ ⟨tv, tv⟩ rfl tv) (st (c_ (cp_ ⟨tv, tv⟩ rfl (nl rfl)) (st (c_ (clenL (e := eDLease) (l0 := a0.list_) rfl rfl tv) (st (mvc_ tv (oe_ (wk_ ⟨[(3, .own 192 0 1 ([].map eI)), (7, .lst 4 (a0.list_.map eDLease)), (8, iV (a0.list_.length : Int)), (9, iV 0)], [], []⟩ (fgk (by kernel_rfl)) (block_ ?_))))))))))))))))))))))))))))
 obtain ⟨r18, e19, h0⟩ := bnd h0
 refine loop_ (R := (fun S => ∃ p13 : List Int, p13 = r18 ∧ S = ⟨[(3, .own 192 0 1 (p13.map eI))], [], []⟩)) (g60_l0 a0) (fun s S => match s with | (p5, p6) => S = ⟨[(3, .own 192 0 1 (p5.map eI)), (7, .lst 4 (a0.list_.map eDLease)), (8, iV (a0.list_.length : Int)), (9, iV p6)], [], []⟩) e19 ⟨[(3, .own 192 0 1 ([].map eI)), (7, .lst 4 (a0.list_.map eDLease)), (8, iV (a0.list_.length : Int)), (9, iV 0)], [], []⟩ (fgk (by kernel_rfl)) rfl 0 (fun _ => rfl) ?_ ?_
 ·rintro S _ hfg ⟨p13, rfl, rfl⟩
  refine wk_ ⟨[(3, .own 192 0 1 (p13.map eI))], [], []⟩ (fglk hfg (by kernel_rfl)) (seq_ (reg_ (st (mv_ rfl tv (st (mv_ rfl tv (oe_ (wk_ ⟨[(2, .own 192 0 1 (p13.map eI))], [], []⟩ (fgk (by kernel_rfl)) ?_))))))))
  obtain rfl := Option.some.inj h0
  exact rt_ (ret_ rfl rfl rfl rfl rfl tv)
 ·rintro ⟨p5, p6⟩ o1 _ K1 rfl h1 hx1 hK1 hE1 hR1
  refine seq_ (reg_ (st (c_ (cp_ t3 rfl tv) (oe_ (wk_ ⟨[(3, .own 192 0 1 (p5.map eI)), (7, .lst 4 (a0.list_.map eDLease)), (8, iV (a0.list_.length : Int)), (9, iV p6), (10, .bool (decide (p6 < (a0.list_.length : Int))))], [], []⟩ (fgk (by kernel_rfl)) (seq_ (ite_ (cb := (decide (p6 < (a0.list_.length : Int)))) rfl (fun c14 => ?_) (fun c14 => ?_))))))))
  ·replace h1 := ip c14 h1
   refine sk_ (wk_ ⟨[(3, .own 192 0 1 (p5.map eI)), (7, .lst 4 (a0.list_.map eDLease)), (8, iV (a0.list_.length : Int)), (9, iV p6)], [], []⟩ (fgk (by kernel_rfl)) (seq_ (block_ (seq_ (reg_ ?_)))))
   obtain ⟨y15, e16, h1⟩ := bnd h1
   refine st (c_ (cidxL (e := eDLease) (y := y15) rfl rfl tv rfl rfl tv e16) (st (c_ (v := .agg (eDLease y15)) (cp_ ⟨tv, tv⟩ rfl (nl rfl)) (st (alloc_ (st (stp_ rfl rfl tv rfl rfl rfl (nl rfl) (oe_ (wk_ ⟨[(3, .own 192 0 1 (p5.map eI)), (5, .ptr 320 0), (7, .lst 4 (a0.list_.map eDLease)), (8, iV (a0.list_.length : Int)), (9, iV p6)], [(320, [iV y15.id, iV y15.until_, iV y15.cap, .bool y15.queued])], []⟩ (fgk (by kernel_rfl)) (reg_ (st (mv_ rfl tv (st (c_ (cp_ ⟨tv, tv⟩ rfl tv) (st (c_ (cp_ ⟨tv, tv⟩ rfl (nl rfl)) (st (mkS_ ⟨tv, tv⟩ ⟨⟨nl rfl, rfl, rfl⟩, tv⟩ ?_))))))))))))))))))
   obtain ⟨c17, h1⟩ := grd h1
   refine st (app_ (e := eI) (l0 := p5) (l1 := ([y15.id] : List Int)) rfl rfl tv rfl (by decide) c17 (st (mv_ rfl tv (oe_ (bn_ (wk_ ⟨[(3, .own 192 0 1 ((p5 ++ ([y15.id] : List Int)).map eI)), (7, .lst 4 (a0.list_.map eDLease)), (8, iV (a0.list_.length : Int)), (9, iV p6)], [], []⟩ (fgk (by kernel_rfl)) (reg_ (st (c_ (cp_ t3 rfl tv) (st (mv_ rfl tv (oe_ ?_))))))))))))
   obtain rfl := Option.some.inj h1
   exact hK1 _ rfl _ ⟨[(3, .own 192 0 1 ((p5 ++ ([y15.id] : List Int)).map eI)), (7, .lst 4 (a0.list_.map eDLease)), (8, iV (a0.list_.length : Int)), (9, iV (IntKind.i64.wrap (p6 + 1)))], [], []⟩ (fgk (by kernel_rfl)) rfl
  ·replace h1 := inb c14 h1
   obtain rfl := Option.some.inj h1
   obtain rfl := hx1 _ rfl
   refine exQ rfl ?_
   exact hE1 _ ⟨[(3, .own 192 0 1 (p5.map eI))], [], []⟩ (fgk (by kernel_rfl)) ⟨_, rfl, rfl⟩

/- slices.IndexFunc[[]loop.example/g00149/impl.Lease,loop.example/g00149/impl.Lease] -/
def c108_r0 : List Ins := [⟨some 4, .p (.mv (.c (iV 0))), none⟩]
def c108_r1 : List Ins := [(iQ 6 (.mv (.t 0))),
(iQ 7 (.len (.t 6))),
⟨some 8, .p (.mv (.c (iV 0))), none⟩]
def c108_r2 : List Ins := [(iQ 9 (.bin .lss (.t 8) (.t 7)))]
def c108_r3 : List Ins := [(iQ 10 (.mv (.t 8))),
(iQ 5 (.mv (.t 10)))]
def c108_r4 : List Ins := [(iQ 11 (.mv (.t 1))),
(iQ 12 (.mv (.t 0))),
(iQ 13 (.mv (.t 5))),
(iQ 14 (.idxA (.t 12) (.t 13) 4)),
(iQ 15 (.load (.t 14) 4 true)),
⟨some 16, .callv (.t 11) [(.t 15)], none⟩]
def c108_r5 : List Ins := [(iQ 17 (.mv (.t 5))),
(iQ 4 (.mv (.t 17)))]
def c108_r6 : List Ins := [⟨some 18, .p (.bin .add (.t 8) (.c (iV 1))), none⟩,
(iQ 8 (.mv (.t 18)))]
def c108_l0 : IR := (.seq (.reg c108_r2) (.seq (.ite (.t 9) .skip (.exit 0)) (.seq (.block 1 (.seq (.reg c108_r3) (.seq (.reg c108_r4) (.ite (.t 16) (.seq (.reg c108_r5) .ret) .skip)))) (.reg c108_r6))))
def c108_r7 : List Ins := [⟨some 4, .p (.mv (.c (iV (-1)))), none⟩]
def c108 : XFn := { np := 2, nt := 19, res := [.t 4], body := (.seq (.reg c108_r0) (.seq (.seq (.reg c108_r1) (.block 0 (.loop c108_l0))) (.seq (.reg c108_r7) .ret))) }
def K108 (C : CRel) : Prop := ∀ (a0 : List DLease) (f1 : Nat) (k1 : List V) (is1 : DLease → Option Bool) (hs1 : Shut k1) (hf1 : ∀ (x0 : DLease) r, is1 x0 = some r → C f1 ⟨.agg (eDLease x0) :: k1, []⟩ ⟨.bool r, [], []⟩) (r : Int), g108 a0 is1 = some r → C 108 ⟨[.lst 4 (a0.map eDLease), .clo f1 k1], []⟩ ⟨iV r, [], []⟩
theorem F108 {C : CRel}  (a0 : List DLease) (f1 : Nat) (k1 : List V) (is1 : DLease → Option Bool) (hs1 : Shut k1) (hf1 : ∀ (x0 : DLease) r, is1 x0 = some r → C f1 ⟨.agg (eDLease x0) :: k1, []⟩ ⟨.bool r, [], []⟩) (r : Int) (h0 : g108 a0 is1 = some r) : FnOK C c108 ⟨[.lst 4 (a0.map eDLease), .clo f1 k1], []⟩ ⟨iV r, [], []⟩ := by
 refine fn_ (nl rfl) (seq_ (reg_ (st (mvc_ tv (oe_ (wk_ ⟨[(0, .lst 4 (a0.map eDLease)), (1, .clo f1 k1)], [], []⟩ (fg ⟨rfl, rfl, tv⟩ tv) (seq_ (seq_ (reg_ (st (mv_ rfl tv (st (c_ (clenL (e := eDLease) (l0 := a0) rfl rfl tv) (st (mvc_ tv (oe_ (wk_ ⟨[(0, .lst 4 (a0.map eDLease)), (1, .clo f1 k1), (7, iV (a0.length : Int)), (8, iV 0)], [], []⟩ (fg ⟨rfl, rfl, rfl, rfl, tv⟩ tv) (block_ ?_))))))))))))))))))
 obtain ⟨r21, e22, h0⟩ := bnd h0
 refine loop_ (R := (fun S => .inl () = r21 ∧ S = ⟨[], [], []⟩)) (g108_l0 a0 is1) (fun s S => match s with | p7 => S = ⟨[(0, .lst 4 (a0.map eDLease)), (1, .clo f1 k1), (7, iV (a0.length : Int)), (8, iV p7)], [], []⟩) e22 ⟨[(0, .lst 4 (a0.map eDLease)), (1, .clo f1 k1), (7, iV (a0.length : Int)), (8, iV 0)], [], []⟩ (fg ⟨rfl, rfl, rfl, rfl, tv⟩ tv) rfl 0 (fun _ => rfl) ?_ ?_
 ·rintro S _ hfg ⟨rfl, rfl⟩
  refine wk_ ⟨[], [], []⟩ (fglk hfg (by kernel_rfl)) (seq_ (reg_ (st (mvc_ tv (oe_ (wk_ ⟨[(4, iV (-1))], [], []⟩ (fgk (by kernel_rfl)) ?_))))))
  obtain rfl := Option.some.inj h0
  exact rt_ (ret_ rfl rfl rfl rfl rfl tv)
 ·rintro p7 o1 _ K1 rfl h1 hx1 hK1 hE1 hR1
  refine seq_ (reg_ (st (c_ (cp_ t3 rfl tv) (oe_ (wk_ ⟨[(0, .lst 4 (a0.map eDLease)), (1, .clo f1 k1), (7, iV (a0.length : Int)), (8, iV p7), (9, .bool (decide (p7 < (a0.length : Int))))], [], []⟩ (fg ⟨rfl, rfl, rfl, rfl, rfl, tv⟩ tv) (seq_ (ite_ (cb := (decide (p7 < (a0.length : Int)))) rfl (fun c15 => ?_) (fun c15 => ?_))))))))
  ·replace h1 := ip c15 h1
   refine sk_ (wk_ ⟨[(0, .lst 4 (a0.map eDLease)), (1, .clo f1 k1), (7, iV (a0.length : Int)), (8, iV p7)], [], []⟩ (fg ⟨rfl, rfl, rfl, rfl, tv⟩ tv) (seq_ (block_ (seq_ (reg_ (st (mv_ rfl tv (st (mv_ rfl tv (oe_ (wk_ ⟨[(0, .lst 4 (a0.map eDLease)), (1, .clo f1 k1), (5, iV p7), (7, iV (a0.length : Int)), (8, iV p7)], [], []⟩ (fg ⟨rfl, rfl, rfl, rfl, rfl, tv⟩ tv) (seq_ (reg_ (st (mv_ rfl tv (st (mv_ rfl tv (st (mv_ rfl tv ?_)))))))))))))))))))
   obtain ⟨y16, e17, h1⟩ := bnd h1
   refine st (c_ (cidxL (e := eDLease) (y := y16) rfl rfl tv rfl rfl tv e17) (st (c_ (v := .agg (eDLease y16)) (cp_ ⟨tv, tv⟩ rfl (nl rfl)) ?_)))
   obtain ⟨r18, e19, h1⟩ := bnd h1
   refine st (callv0_ (r := .bool r18) rfl false (hf1 _ r18 e19) ⟨tv, tv⟩ (and_ rfl hs1.2.2.1) (mapc1 rfl (hs1.2.1 _ _ _ _ _)) (fun _ => rfl) (oe_ (wk_ ⟨[(0, .lst 4 (a0.map eDLease)), (1, .clo f1 k1), (5, iV p7), (7, iV (a0.length : Int)), (8, iV p7), (16, .bool r18)], [], []⟩ (fg ⟨rfl, rfl, rfl, rfl, rfl, rfl, tv⟩ tv) (ite_ (cb := r18) rfl (fun c20 => ?_) (fun c20 => ?_)))))
   ·replace h1 := ip c20 h1
    refine seq_ (reg_ (st (mv_ rfl tv (st (mv_ rfl tv (oe_ (wk_ ⟨[(4, iV p7)], [], []⟩ (fgk (by kernel_rfl)) ?_)))))))
    obtain rfl := Option.some.inj h1
    obtain rfl := hx1 _ rfl
    obtain rfl := Option.some.inj h0
    exact rt_ (hR1 _ (ret_ rfl rfl rfl rfl rfl tv))
   ·replace h1 := inb c20 h1
    refine sk_ (bn_ (wk_ ⟨[(0, .lst 4 (a0.map eDLease)), (1, .clo f1 k1), (7, iV (a0.length : Int)), (8, iV p7)], [], []⟩ (fg ⟨rfl, rfl, rfl, rfl, tv⟩ tv) (reg_ (st (c_ (cp_ t3 rfl tv) (st (mv_ rfl tv (oe_ ?_))))))))
    obtain rfl := Option.some.inj h1
    exact hK1 _ rfl _ ⟨[(0, .lst 4 (a0.map eDLease)), (1, .clo f1 k1), (7, iV (a0.length : Int)), (8, iV (IntKind.i64.wrap (p7 + 1)))], [], []⟩ (fg ⟨rfl, rfl, rfl, rfl, tv⟩ tv) rfl
  ·replace h1 := inb c15 h1
   obtain rfl := Option.some.inj h1
   obtain rfl := hx1 _ rfl
   refine exQ rfl ?_
   exact hE1 _ ⟨[], [], []⟩ (fgk (by kernel_rfl)) ⟨rfl, rfl⟩

/- slices.ContainsFunc[[]loop.example/g00149/impl.Lease,loop.example/g00149/impl.Lease] -/
def c105_r0 : List Ins := [⟨some 4, .p (.mv (.c (.bool false))), none⟩]
def c105_r1 : List Ins := [(iQ 5 (.mv (.t 0))),
(iQ 6 (.mv (.t 1))),
⟨some 7, .call 108 [(.t 5), (.t 6)], none⟩,
⟨some 8, .p (.bin .geq (.t 7) (.c (iV 0))), none⟩,
(iQ 4 (.mv (.t 8)))]
def c105 : XFn := { np := 2, nt := 9, res := [.t 4], body := (.seq (.reg c105_r0) (.seq (.reg c105_r1) .ret)) }
def K105 (C : CRel) : Prop := ∀ (a0 : List DLease) (f1 : Nat) (k1 : List V) (is1 : DLease → Option Bool) (hs1 : Shut k1) (hf1 : ∀ (x0 : DLease) r, is1 x0 = some r → C f1 ⟨.agg (eDLease x0) :: k1, []⟩ ⟨.bool r, [], []⟩) (r : Bool), g105 a0 is1 = some r → C 105 ⟨[.lst 4 (a0.map eDLease), .clo f1 k1], []⟩ ⟨.bool r, [], []⟩
theorem F105 {C : CRel} (H108 : K108 C) (a0 : List DLease) (f1 : Nat) (k1 : List V) (is1 : DLease → Option Bool) (hs1 : Shut k1) (hf1 : ∀ (x0 : DLease) r, is1 x0 = some r → C f1 ⟨.agg (eDLease x0) :: k1, []⟩ ⟨.bool r, [], []⟩) (r : Bool) (h0 : g105 a0 is1 = some r) : FnOK C c105 ⟨[.lst 4 (a0.map eDLease), .clo f1 k1], []⟩ ⟨.bool r, [], []⟩ := by
 refine fn_ (nl rfl) (seq_ (reg_ (st (mvc_ tv (oe_ (wk_ ⟨[(0, .lst 4 (a0.map eDLease)), (1, .clo f1 k1)], [], []⟩ (fg ⟨rfl, rfl, tv⟩ tv) (seq_ (reg_ (st (mv_ rfl tv (st (mv_ rfl tv ?_))))))))))))
 obtain ⟨r1, e2, h0⟩ := bnd h0
 refine st (call0_ (r := iV r1) false (H108 a0 f1 k1 is1 hs1 hf1 r1 e2) ⟨tv, tv, tv⟩ rfl (mapc1 rfl (mapc1 (clo_sh hs1) rfl)) (fun _ => rfl) (st (c_ (cp_ t3 rfl tv) (st (mv_ rfl tv (oe_ (wk_ ⟨[(4, .bool (decide (r1 ≥ 0)))], [], []⟩ (fgk (by kernel_rfl)) ?_)))))))
 obtain rfl := Option.some.inj h0
 exact rt_ (ret_ rfl rfl rfl rfl rfl tv)

/- loop.example/g00149/impl.areAll[loop.example/g00149/impl.Lease]$1 -/
def c106_r0 : List Ins := [⟨some 2, .box (.t 0), none⟩,
⟨some 3, .p (.mv (.c (.bool false))), none⟩]
def c106_r1 : List Ins := [(iQ 4 (.load (.t 1) 1 false)),
(iQ 5 (.load (.t 2) 4 true)),
⟨some 6, .callv (.t 4) [(.t 5)], none⟩,
(iQ 7 (.un .not (.t 6))),
(iQ 3 (.mv (.t 7)))]
def c106 : XFn := { np := 2, nt := 8, res := [.t 3], body := (.seq (.reg c106_r0) (.seq (.reg c106_r1) .ret)) }
def K106 (C : CRel) : Prop := ∀ (a0 : DLease) (f1 : Nat) (k1 : List V) (is1 : DLease → Option Bool) (hs1 : Shut k1) (hf1 : ∀ (x0 : DLease) r, is1 x0 = some r → C f1 ⟨.agg (eDLease x0) :: k1, []⟩ ⟨.bool r, [], []⟩) (r : Bool), g106 a0 is1 = some r → C 106 ⟨[.agg (eDLease a0), .iptr [.clo f1 k1]], []⟩ ⟨.bool r, [], []⟩
theorem F106 {C : CRel}  (a0 : DLease) (f1 : Nat) (k1 : List V) (is1 : DLease → Option Bool) (hs1 : Shut k1) (hf1 : ∀ (x0 : DLease) r, is1 x0 = some r → C f1 ⟨.agg (eDLease x0) :: k1, []⟩ ⟨.bool r, [], []⟩) (r : Bool) (h0 : g106 a0 is1 = some r) : FnOK C c106 ⟨[.agg (eDLease a0), .iptr [.clo f1 k1]], []⟩ ⟨.bool r, [], []⟩ := by
 refine fn_ (nl rfl) (seq_ (reg_ (st (box_ rfl tv rfl (sw ⟨[(1, .iptr [.clo f1 k1]), (2, .ptr 128 0)], [(128, [iV a0.id, iV a0.until_, iV a0.cap, .bool a0.queued])], []⟩ (fg ⟨rfl, rfl, tv⟩ ⟨rfl, tv⟩) (mvc_ tv (oe_ (wk_ ⟨[(1, .iptr [.clo f1 k1]), (2, .ptr 128 0)], [(128, [iV a0.id, iV a0.until_, iV a0.cap, .bool a0.queued])], []⟩ (fg ⟨rfl, rfl, tv⟩ ⟨rfl, tv⟩) (seq_ (reg_ (st (c_ (cp_ ⟨tv, tv⟩ rfl (nl rfl)) (st (c_ (v := .agg (eDLease a0)) (cp_ ⟨tv, tv⟩ rfl (nl rfl)) ?_))))))))))))))
 obtain ⟨r1, e2, h0⟩ := bnd h0
 refine st (callv0_ (r := .bool r1) rfl false (hf1 _ r1 e2) ⟨tv, tv⟩ (and_ rfl hs1.2.2.1) (mapc1 rfl (hs1.2.1 _ _ _ _ _)) (fun _ => rfl) (st (c_ (cp_ ⟨tv, tv⟩ rfl tv) (st (mv_ rfl tv (oe_ (wk_ ⟨[(3, .bool (!r1))], [], []⟩ (fgk (by kernel_rfl)) ?_)))))))
 obtain rfl := Option.some.inj h0
 exact rt_ (ret_ rfl rfl rfl rfl rfl tv)

/- loop.example/g00149/impl.areAll[loop.example/g00149/impl.Lease] -/
def c61_r0 : List Ins := [⟨some 3, .box (.t 1), none⟩,
⟨some 4, .p (.mv (.c (.bool false))), none⟩]
def c61_r1 : List Ins := [(iQ 5 (.mv (.t 0))),
(iQ 6 (.fn 106 [(.t 3)])),
⟨some 7, .call 105 [(.t 5), (.t 6)], none⟩,
(iQ 8 (.un .not (.t 7))),
(iQ 4 (.mv (.t 8)))]
def c61 : XFn := { np := 2, nt := 9, res := [.t 4], body := (.seq (.reg c61_r0) (.seq (.reg c61_r1) .ret)) }
def K61 (C : CRel) : Prop := ∀ (a0 : List DLease) (f1 : Nat) (k1 : List V) (is1 : DLease → Option Bool) (hs1 : Shut k1) (hf1 : ∀ (x0 : DLease) r, is1 x0 = some r → C f1 ⟨.agg (eDLease x0) :: k1, []⟩ ⟨.bool r, [], []⟩) (r : Bool), g61 a0 is1 = some r → C 61 ⟨[.lst 4 (a0.map eDLease), .clo f1 k1], []⟩ ⟨.bool r, [], []⟩
theorem F61 {C : CRel} (H105 : K105 C) (H106 : K106 C) (a0 : List DLease) (f1 : Nat) (k1 : List V) (is1 : DLease → Option Bool) (hs1 : Shut k1) (hf1 : ∀ (x0 : DLease) r, is1 x0 = some r → C f1 ⟨.agg (eDLease x0) :: k1, []⟩ ⟨.bool r, [], []⟩) (r : Bool) (h0 : g61 a0 is1 = some r) : FnOK C c61 ⟨[.lst 4 (a0.map eDLease), .clo f1 k1], []⟩ ⟨.bool r, [], []⟩ := by
 refine fn_ (nl rfl) (seq_ (reg_ (st (box_ (dr_sh hs1) tv rfl (sw ⟨[(0, .lst 4 (a0.map eDLease)), (3, .ptr 192 0)], [(192, [.clo f1 k1])], []⟩ (fg ⟨rfl, rfl, tv⟩ ⟨rfl, tv⟩) (mvc_ tv (oe_ (wk_ ⟨[(0, .lst 4 (a0.map eDLease)), (3, .ptr 192 0)], [(192, [.clo f1 k1])], []⟩ (fg ⟨rfl, rfl, tv⟩ ⟨rfl, tv⟩) (seq_ (reg_ (st (mv_ rfl tv (st (c_ (cp_ ⟨tv, tv⟩ rfl rfl) ?_))))))))))))))
 obtain ⟨r1, e2, h0⟩ := bnd h0
 refine st (call0_ (r := .bool r1) false (H105 a0 106 [.iptr [.clo f1 k1]] (fun z106_0 => g106 z106_0 is1) (⟨fun _ _ _ _ _ => rfl, fun _ _ _ _ _ => rfl, rfl, fun _ _ _ n => by cases n <;> rfl, fun _ => rfl⟩) (fun z106_0 r h => H106 z106_0 f1 k1 is1 hs1 hf1 r h) r1 e2) ⟨tv, tv, tv⟩ rfl (mapc1 rfl (mapc1 (congrArg (fun z => V.clo 106 [.iptr [.clo f1 z]]) (hs1.2.2.2.1 _ _ _ _)) rfl)) (fun _ => rfl) (st (c_ (cp_ ⟨tv, tv⟩ rfl tv) (st (mv_ rfl tv (oe_ (wk_ ⟨[(4, .bool (!r1))], [], []⟩ (fgk (by kernel_rfl)) ?_)))))))
 obtain rfl := Option.some.inj h0
 exact rt_ (ret_ rfl rfl rfl rfl rfl tv)

/- loop.example/g00149/impl.TableOK$1 -/
def c62_r0 : List Ins := [⟨some 2, .box (.t 0), none⟩,
⟨some 3, .p (.mv (.c (.bool false))), none⟩]
def c62_r1 : List Ins := [(iQ 4 (.fieldA (.t 2) 1)),
(iQ 5 (.load (.t 4) 1 false)),
(iQ 6 (.fieldA (.t 2) 2)),
(iQ 7 (.load (.t 6) 1 false)),
⟨some 8, .call 63 [(.t 5), (.c (iV 0)), (.t 7)], none⟩,
(iQ 9 (.mv (.t 8))),
⟨some 10, .p (.fieldA (.t 2) 3), some (9, true)⟩,
⟨some 11, .p (.load (.t 10) 1 false), some (9, true)⟩,
⟨some 12, .p (.mv (.t 11)), some (9, true)⟩,
⟨some 13, .p (.fieldA (.t 2) 1), some (12, false)⟩,
⟨some 14, .p (.load (.t 13) 1 false), some (12, false)⟩,
⟨some 15, .p (.fieldA (.t 1) 0), some (12, false)⟩,
⟨some 16, .p (.load (.t 15) 1 false), some (12, false)⟩,
⟨some 17, .p (.bin .gtr (.t 14) (.t 16)), some (12, false)⟩,
⟨some 18, .pick (.t 12) (.c (.bool true)) (.t 17), some (9, true)⟩,
⟨some 19, .pick (.t 9) (.t 18) (.c (.bool false)), none⟩,
(iQ 3 (.mv (.t 19)))]
def c62 : XFn := { np := 2, nt := 20, res := [.t 3], body := (.seq (.reg c62_r0) (.seq (.reg c62_r1) .ret)) }
def K62 (C : CRel) : Prop := ∀ (a0 : DLease) (a1 : DTable) (r : Bool), g62 a0 a1 = some r → C 62 ⟨[.agg (eDLease a0), .iptr [iV a1.clock, iV a1.next, .lst 4 (a1.list_.map eDLease)]], []⟩ ⟨.bool r, [], []⟩
theorem F62 {C : CRel} (H63 : K63 C) (a0 : DLease) (a1 : DTable) (r : Bool) (h0 : g62 a0 a1 = some r) : FnOK C c62 ⟨[.agg (eDLease a0), .iptr [iV a1.clock, iV a1.next, .lst 4 (a1.list_.map eDLease)]], []⟩ ⟨.bool r, [], []⟩ := by
 refine fn_ (nl rfl) (seq_ (reg_ (st (box_ rfl tv rfl (st (mvc_ tv (oe_ (wk_ ⟨[(1, .iptr [iV a1.clock, iV a1.next, .lst 4 (a1.list_.map eDLease)]), (2, .ptr 128 0)], [(128, [iV a0.id, iV a0.until_, iV a0.cap, .bool a0.queued])], []⟩ (fgk (by kernel_rfl)) (seq_ (reg_ (st (c_ (cp_ ⟨tv, tv⟩ rfl tv) (st (c_ (cp_ ⟨tv, tv⟩ rfl (nl rfl)) (st (c_ (cp_ ⟨tv, tv⟩ rfl tv) (st (c_ (cp_ ⟨tv, tv⟩ rfl (nl rfl)) ?_))))))))))))))))))
 obtain ⟨r1, e2, h0⟩ := bnd h0
 refine st (call0_ (r := .bool r1) false (H63 a0.until_ 0 a0.cap r1 e2) ⟨tv, tv, tv, tv⟩ rfl rfl (fun _ => rfl) (st (mv_ rfl tv (st (pg_ (u := .ptr 128 3) rfl (fun hg => (cp_ ⟨tv, tv⟩ rfl tv)) (st (pg_ (u := .bool a0.queued) rfl (fun hg => (cp_ ⟨(fun _ => hg), tv⟩ rfl (nl rfl))) (st (pg_ (u := .bool a0.queued) rfl (fun hg => (cmv (v := .may (r1 == true) (.bool a0.queued)) rfl (fun _ => hg))) (st (pg_ (u := .ptr 128 1) rfl (fun hg => (cp_ ⟨tv, tv⟩ rfl tv)) (st (pg_ (u := iV a0.until_) rfl (fun hg => (cp_ ⟨(fun _ => hg), tv⟩ rfl (nl rfl))) (st (pg_ (u := .iptr [iV a1.clock, iV a1.next, .lst 4 (a1.list_.map eDLease)]) rfl (fun hg => (cp_ ⟨tv, tv⟩ rfl (nl rfl))) (sw ⟨[(9, .bool r1), (12, .may (r1 == true) (.bool a0.queued)), (14, .may ((r1 == true) && (a0.queued == false)) (iV a0.until_)), (15, .may ((r1 == true) && (a0.queued == false)) (.iptr [iV a1.clock, iV a1.next, .lst 4 (a1.list_.map eDLease)]))], [], []⟩ (fgk (by kernel_rfl)) (pg_ (u := iV a1.clock) rfl (fun hg => (cp_ ⟨(fun _ => hg), tv⟩ rfl (nl rfl))) (st (pg_ (u := .bool (decide (a0.until_ > a1.clock))) rfl (fun hg => (cp_ ⟨(fun _ => hg), (fun _ => hg), tv⟩ rfl tv)) (st (pickg_ (u := .bool (bif a0.queued then true else (decide (a0.until_ > a1.clock)))) rfl (fun hg => cpick rfl rfl (fun _ => hg) rfl rfl tv (fun h => and_ hg (eqf h)) rfl) (st (pick_ rfl rfl rfl (fun h => eqt h) tv rfl (st (mv_ rfl tv (oe_ ?_))))))))))))))))))))))))))
 obtain ⟨v3, e4, h0⟩ := bl h0
 refine wk_ ⟨[(3, .bool v3)], [], []⟩ (fgk (by subst e4; kernel_rfl)) ?_
 obtain rfl := Option.some.inj h0
 exact rt_ (ret_ rfl rfl rfl rfl rfl tv)

/- loop.example/g00149/impl.TableOK -/
def c20_r0 : List Ins := [⟨some 1, .box (.t 0), none⟩,
⟨some 2, .p (.mv (.c (.bool false))), none⟩]
def c20_r1 : DP := (.take (iQ 3 (.fieldA (.t 1) 0))
(.take (iQ 4 (.load (.t 3) 1 false))
(.take ⟨some 5, .p (.bin .geq (.t 4) (.c (iV 0))), none⟩
(.take (iQ 6 (.mv (.t 5)))
(.take ⟨some 7, .p (.fieldA (.t 1) 1), some (6, true)⟩
(.take ⟨some 8, .p (.load (.t 7) 1 false), some (6, true)⟩
(.alt [] ⟨some 9, .call 58 [(.t 8)], some (6, true)⟩
(.take ⟨some 10, .pick (.t 6) (.t 9) (.c (.bool false)), none⟩
(.take (iQ 11 (.mv (.t 10)))
(.take ⟨some 12, .p (.fieldA (.t 1) 2), some (11, true)⟩
(.take ⟨some 13, .p (.load (.t 12) 1 false), some (11, true)⟩
(.take ⟨some 14, .p (.len (.t 13)), some (11, true)⟩
(.take ⟨some 15, .p (.bin .leq (.t 14) (.c (iV 40))), some (11, true)⟩
(.take ⟨some 16, .pick (.t 11) (.t 15) (.c (.bool false)), none⟩
(.take (iQ 17 (.mv (.t 16)))
(.take ⟨some 18, .p (.load (.t 1) 3 true), some (17, true)⟩
(.take ⟨some 20, .p (.fieldA (.t 1) 1), some (17, true)⟩
(.take ⟨some 21, .p (.load (.t 20) 1 false), some (17, true)⟩
(.take ⟨some 22, .p (.bin .sub (.t 21) (.c (iV 1))), some (17, true)⟩
(.alt [⟨some 22, .p (.bin .sub (.t 21) (.c (iV 1))), some (17, true)⟩, ⟨some 21, .p (.load (.t 20) 1 false), some (17, true)⟩, ⟨some 20, .p (.fieldA (.t 1) 1), some (17, true)⟩] ⟨some 19, .call 60 [(.t 18)], some (17, true)⟩
(.alt [] ⟨some 23, .call 59 [(.t 19), (.c (iV 1)), (.t 22)], some (17, true)⟩
(.take ⟨some 24, .pick (.t 17) (.t 23) (.c (.bool false)), none⟩
(.take (iQ 25 (.mv (.t 24)))
(.take ⟨some 26, .p (.fieldA (.t 1) 2), some (25, true)⟩
(.take ⟨some 27, .p (.load (.t 26) 1 false), some (25, true)⟩
(.take ⟨some 28, .p (.fn 62 [(.t 1)]), some (25, true)⟩
(.alt [] ⟨some 29, .call 61 [(.t 27), (.t 28)], some (25, true)⟩
(.take ⟨some 30, .pick (.t 25) (.t 29) (.c (.bool false)), none⟩
(.take (iQ 2 (.mv (.t 30)))
.fin))
.stop))))))
.stop)
.stop)))))))))))))
.stop)))))))
def c20 : XFn := { np := 1, nt := 31, res := [.t 2], body := (.seq (.reg c20_r0) (.seq (.draw c20_r1) .ret)) }
def K20 (C : CRel) : Prop := ∀ (a0 : DTable) (r : Bool), g20 a0 = some r → C 20 ⟨[.agg (eDTable a0)], []⟩ ⟨.bool r, [], []⟩
theorem F20 {C : CRel} (H58 : K58 C) (H59 : K59 C) (H60 : K60 C) (H61 : K61 C) (H62 : K62 C) (a0 : DTable) (r : Bool) (h0 : g20 a0 = some r) : FnOK C c20 ⟨[.agg (eDTable a0)], []⟩ ⟨.bool r, [], []⟩ := by
 refine fn_ (nl rfl) (seq_ (reg_ (st (box_ rfl tv rfl (st (mvc_ tv (oe_ (wk_ ⟨[(1, .ptr 64 0)], [(64, [iV a0.clock, iV a0.next, .lst 4 (a0.list_.map eDLease)])], []⟩ (fgk (by kernel_rfl)) (seq_ ?_)))))))))
 obtain ⟨r1, e2, h0⟩ := bnd h0
 obtain ⟨r3, e4, h0⟩ := bnd h0
 obtain ⟨r5, e6, h0⟩ := bnd h0
 obtain ⟨r7, e8, h0⟩ := bnd h0
 refine draw_ (dtake tv (c_ (cp_ ⟨tv, tv⟩ rfl tv) (⟨tv, (dtake tv (c_ (cp_ ⟨tv, tv⟩ rfl (nl rfl)) (⟨tv, (dtake tv (c_ (cp_ t3 rfl tv) (⟨tv, (dtake tv (mv_ rfl tv (⟨tv, (dtake tv (pg_ (u := .ptr 64 1) rfl (fun hg => (cp_ ⟨tv, tv⟩ rfl tv)) (⟨tv, (dtake tv (pg_ (u := iV a0.next) rfl (fun hg => (cp_ ⟨(fun _ => hg), tv⟩ rfl (nl rfl))) (⟨tv, (dalt (callg_ (r := .bool r1) rfl false (fun hg => H58 a0.next r1 (ip hg e2)) ⟨(fun hg => hg), tv⟩ (fun _ => rfl) (fun _ => rfl) (fun _ => rfl) (fun h => nomatch h) (dkw ⟨[(1, .ptr 64 0), (6, .bool (decide (a0.clock ≥ 0))), (9, .may ((decide (a0.clock ≥ 0)) == true) (.bool r1))], [(64, [iV a0.clock, iV a0.next, .lst 4 (a0.list_.map eDLease)])], []⟩ (fgk (by kernel_rfl)) ⟨[], tv, tv, (dtake tv (pick_ rfl rfl rfl (fun h => eqt h) tv rfl (⟨tv, (dtake tv (mv_ rfl tv (⟨tv, (dtake tv (pg_ (u := .ptr 64 2) rfl (fun hg => (cp_ ⟨tv, tv⟩ rfl tv)) (⟨tv, (dtake tv (pg_ (u := .lst 4 (a0.list_.map eDLease)) rfl (fun hg => (cp_ ⟨(fun _ => hg), tv⟩ rfl (nl rfl))) (⟨tv, (dtake tv (pg_ (u := iV (a0.list_.length : Int)) rfl (fun hg => (clenL (e := eDLease) (l0 := a0.list_) rfl rfl (fun _ => hg))) (⟨tv, (dtake tv (pg_ (u := .bool (decide ((a0.list_.length : Int) ≤ 40))) rfl (fun hg => (cp_ ⟨(fun _ => hg), tv, tv⟩ rfl tv)) (⟨tv, (dtake tv (pick_ rfl rfl rfl (fun h => eqt h) tv rfl (⟨tv, (dtake tv (mv_ rfl tv (⟨tv, ?_⟩)))⟩)))⟩)))⟩)))⟩)))⟩)))⟩)))⟩)))⟩)) dstop)⟩)))⟩)))⟩)))⟩)))⟩)))⟩)))
 refine dtake tv (pg_ (u := .agg (eDTable a0)) rfl (fun hg => (cp_ ⟨tv, tv⟩ rfl (nl rfl))) (⟨tv, (dtake tv (pg_ (u := .ptr 64 1) rfl (fun hg => (cp_ ⟨tv, tv⟩ rfl tv)) (⟨tv, (dtake tv (pg_ (u := iV a0.next) rfl (fun hg => (cp_ ⟨(fun _ => hg), tv⟩ rfl (nl rfl))) (⟨tv, (dtake tv (pg_ (u := iV (IntKind.i64.wrap (a0.next - 1))) rfl (fun hg => (cp_ ⟨(fun _ => hg), tv, tv⟩ rfl tv)) (⟨tv, (dalt (callg_ (r := .own 0 0 1 (r3.map eI)) rfl false (fun hg => H60 a0 r3 (ip hg e4)) ⟨(fun hg => hg), tv⟩ (fun _ => rfl) (fun _ => rfl) (fun _ => (and_ (fl1 (fun _ => rfl)) rfl)) (fun h => nomatch h) (dkw ⟨[(1, .ptr 64 0), (17, .bool (bif (bif (decide (a0.clock ≥ 0)) then r1 else false) then (decide ((a0.list_.length : Int) ≤ 40)) else false)), (19, .may ((bif (bif (decide (a0.clock ≥ 0)) then r1 else false) then (decide ((a0.list_.length : Int) ≤ 40)) else false) == true) (.lst 1 (r3.map eI))), (20, .may ((bif (bif (decide (a0.clock ≥ 0)) then r1 else false) then (decide ((a0.list_.length : Int) ≤ 40)) else false) == true) (.ptr 64 1)), (21, .may ((bif (bif (decide (a0.clock ≥ 0)) then r1 else false) then (decide ((a0.list_.length : Int) ≤ 40)) else false) == true) (iV a0.next)), (22, .may ((bif (bif (decide (a0.clock ≥ 0)) then r1 else false) then (decide ((a0.list_.length : Int) ≤ 40)) else false) == true) (iV (IntKind.i64.wrap (a0.next - 1))))], [(64, [iV a0.clock, iV a0.next, .lst 4 (a0.list_.map eDLease)])], []⟩ (fgk (by kernel_rfl)) ⟨[], ⟨⟨.inl tv, (againg (v := iV (IntKind.i64.wrap (a0.next - 1))) rfl (fun hg => (cp_ ⟨(fun _ => hg), tv, tv⟩ rfl tv)) rfl)⟩, ⟨.inl tv, (againg (v := iV a0.next) rfl (fun hg => (cp_ ⟨(fun _ => hg), tv⟩ rfl (nl rfl))) rfl)⟩, ⟨.inl tv, (againg (v := .ptr 64 1) rfl (fun hg => (cp_ ⟨tv, tv⟩ rfl tv)) rfl)⟩, tv⟩, tv, (dalt (callg_ (r := .bool r5) rfl false (fun hg => H59 r3 1 (IntKind.i64.wrap (a0.next - 1)) r5 (ip hg e6)) ⟨(fun hg => hg), tv, (fun hg => hg), tv⟩ (fun _ => rfl) (fun _ => rfl) (fun _ => rfl) (fun h => nomatch h) (dkw ⟨[(1, .ptr 64 0), (17, .bool (bif (bif (decide (a0.clock ≥ 0)) then r1 else false) then (decide ((a0.list_.length : Int) ≤ 40)) else false)), (23, .may ((bif (bif (decide (a0.clock ≥ 0)) then r1 else false) then (decide ((a0.list_.length : Int) ≤ 40)) else false) == true) (.bool r5))], [(64, [iV a0.clock, iV a0.next, .lst 4 (a0.list_.map eDLease)])], []⟩ (fgk (by kernel_rfl)) ⟨[], tv, tv, (dtake tv (pick_ rfl rfl rfl (fun h => eqt h) tv rfl (⟨tv, (dtake tv (mv_ rfl tv (⟨tv, (dtake tv (pg_ (u := .ptr 64 2) rfl (fun hg => (cp_ ⟨tv, tv⟩ rfl tv)) (⟨tv, (dtake tv (pg_ (u := .lst 4 (a0.list_.map eDLease)) rfl (fun hg => (cp_ ⟨(fun _ => hg), tv⟩ rfl (nl rfl))) (⟨tv, (dtake tv (pg_ (u := .clo 62 [.ptr 64 0]) rfl (fun hg => (cp_ ⟨tv, tv⟩ rfl rfl)) (⟨tv, (dalt (callg_ (r := .bool r7) rfl false (fun hg => H61 a0.list_ 62 [.iptr [iV a0.clock, iV a0.next, .lst 4 (a0.list_.map eDLease)]] (fun z62_0 => g62 z62_0 a0) (⟨fun _ _ _ _ _ => rfl, fun _ _ _ _ _ => rfl, rfl, fun _ _ _ n => by cases n <;> rfl, fun _ => rfl⟩) (fun z62_0 r h => H62 z62_0 a0 r h) r7 (ip hg e8)) ⟨(fun hg => hg), (fun hg => hg), tv⟩ (fun _ => rfl) (fun _ => rfl) (fun _ => rfl) (fun h => nomatch h) (dkw ⟨[(25, .bool (bif (bif (bif (decide (a0.clock ≥ 0)) then r1 else false) then (decide ((a0.list_.length : Int) ≤ 40)) else false) then r5 else false)), (29, .may ((bif (bif (bif (decide (a0.clock ≥ 0)) then r1 else false) then (decide ((a0.list_.length : Int) ≤ 40)) else false) then r5 else false) == true) (.bool r7))], [], []⟩ (fgk (by kernel_rfl)) ⟨[], tv, tv, (dtake tv (pick_ rfl rfl rfl (fun h => eqt h) tv rfl (⟨tv, (dtake tv (mv_ rfl tv (⟨tv, (dfin ?_)⟩)))⟩)))⟩)) dstop)⟩)))⟩)))⟩)))⟩)))⟩)))⟩)) dstop)⟩)) dstop)⟩)))⟩)))⟩)))⟩))
 obtain ⟨v9, e10, h0⟩ := bl h0
 refine wk_ ⟨[(2, .bool v9)], [], []⟩ (fgk (by subst e10; kernel_rfl)) ?_
 obtain rfl := Option.some.inj h0
 exact rt_ (ret_ rfl rfl rfl rfl rfl tv)

/- loop.example/g00149/impl.leases -/
def c95_r0 : List Ins := [⟨some 2, .nilS 1, none⟩]
def c95_r1 : List Ins := [⟨some 3, .nilS 1, none⟩]
def c95_r2 : List Ins := [(iQ 6 (.mv (.t 0))),
(iQ 7 (.len (.t 6))),
⟨some 8, .p (.mv (.c (iV 0))), none⟩]
def c95_r3 : List Ins := [(iQ 9 (.bin .lss (.t 8) (.t 7)))]
def c95_r4 : List Ins := [(iQ 10 (.idxA (.t 6) (.t 8) 2)),
(iQ 11 (.load (.t 10) 2 true)),
⟨some 5, .alloc [(iV 0), (.bool false)], none⟩,
⟨none, .store (.t 5) (.t 11) 2, none⟩]
def c95_r5 : List Ins := [(iQ 12 (.mv (.t 3))),
(iQ 13 (.fieldA (.t 5) 0)),
(iQ 14 (.load (.t 13) 1 false)),
⟨some 15, .mkS 1 [(iV 0)] 1 [(0, (.t 14))], none⟩,
⟨some 16, .app 1 8 (.t 12) (.t 15), none⟩,
(iQ 3 (.mv (.t 16)))]
def c95_r6 : List Ins := [⟨some 17, .p (.bin .add (.t 8) (.c (iV 1))), none⟩,
(iQ 8 (.mv (.t 17)))]
def c95_l0 : IR := (.seq (.reg c95_r3) (.seq (.ite (.t 9) .skip (.exit 0)) (.seq (.block 1 (.seq (.reg c95_r4) (.reg c95_r5))) (.reg c95_r6))))
def c95_r7 : List Ins := [(iQ 18 (.mv (.t 3))),
(iQ 2 (.mv (.t 18)))]
def c95 : XFn := { np := 1, nt := 19, res := [.t 2], body := (.seq (.reg c95_r0) (.seq (.reg c95_r1) (.seq (.seq (.reg c95_r2) (.block 0 (.loop c95_l0))) (.seq (.reg c95_r7) .ret)))) }
def K95 (C : CRel) : Prop := ∀ (a0 : List DIntent) (r : (List Int)), g95 a0 = some r → C 95 ⟨[.lst 2 (a0.map eDIntent)], []⟩ ⟨.own 0 0 1 (r.map eI), [], []⟩
theorem F95 {C : CRel}  (a0 : List DIntent) (r : (List Int)) (h0 : g95 a0 = some r) : FnOK C c95 ⟨[.lst 2 (a0.map eDIntent)], []⟩ ⟨.own 0 0 1 (r.map eI), [], []⟩ := by
 refine fn_ (nl rfl) (seq_ (reg_ (st (nilS_ (oe_ (wk_ ⟨[(0, .lst 2 (a0.map eDIntent))], [], []⟩ (fgk (by kernel_rfl)) (seq_ (reg_ (st (nilS_ (oe_ (wk_ ⟨[(0, .lst 2 (a0.map eDIntent)), (3, .own 192 0 1 ([].map eI))], [], []⟩ (fgk (by kernel_rfl)) (seq_ (seq_ (reg_ (st (mv_ rfl tv (st (c_ (clenL (e := eDIntent) (l0 := a0) rfl rfl tv) (st (mvc_ tv (oe_ (wk_ ⟨[(3, .own 192 0 1 ([].map eI)), (6, .lst 2 (a0.map eDIntent)), (7, iV (a0.length : Int)), (8, iV 0)], [], []⟩ (fgk (by kernel_rfl)) (block_ ?_))))))))))))))))))))))))
 obtain ⟨r18, e19, h0⟩ := bnd h0
 refine loop_ (R := (fun S => ∃ p13 : List Int, p13 = r18 ∧ S = ⟨[(3, .own 192 0 1 (p13.map eI))], [], []⟩)) (g95_l0 a0) (fun s S => match s with | (p5, p6) => S = ⟨[(3, .own 192 0 1 (p5.map eI)), (6, .lst 2 (a0.map eDIntent)), (7, iV (a0.length : Int)), (8, iV p6)], [], []⟩) e19 ⟨[(3, .own 192 0 1 ([].map eI)), (6, .lst 2 (a0.map eDIntent)), (7, iV (a0.length : Int)), (8, iV 0)], [], []⟩ (fgk (by kernel_rfl)) rfl 0 (fun _ => rfl) ?_ ?_
 ·rintro S _ hfg ⟨p13, rfl, rfl⟩
  refine wk_ ⟨[(3, .own 192 0 1 (p13.map eI))], [], []⟩ (fglk hfg (by kernel_rfl)) (seq_ (reg_ (st (mv_ rfl tv (st (mv_ rfl tv (oe_ (wk_ ⟨[(2, .own 192 0 1 (p13.map eI))], [], []⟩ (fgk (by kernel_rfl)) ?_))))))))
  obtain rfl := Option.some.inj h0
  exact rt_ (ret_ rfl rfl rfl rfl rfl tv)
 ·rintro ⟨p5, p6⟩ o1 _ K1 rfl h1 hx1 hK1 hE1 hR1
  refine seq_ (reg_ (st (c_ (cp_ t3 rfl tv) (oe_ (wk_ ⟨[(3, .own 192 0 1 (p5.map eI)), (6, .lst 2 (a0.map eDIntent)), (7, iV (a0.length : Int)), (8, iV p6), (9, .bool (decide (p6 < (a0.length : Int))))], [], []⟩ (fgk (by kernel_rfl)) (seq_ (ite_ (cb := (decide (p6 < (a0.length : Int)))) rfl (fun c14 => ?_) (fun c14 => ?_))))))))
  ·replace h1 := ip c14 h1
   refine sk_ (wk_ ⟨[(3, .own 192 0 1 (p5.map eI)), (6, .lst 2 (a0.map eDIntent)), (7, iV (a0.length : Int)), (8, iV p6)], [], []⟩ (fgk (by kernel_rfl)) (seq_ (block_ (seq_ (reg_ ?_)))))
   obtain ⟨y15, e16, h1⟩ := bnd h1
   refine st (c_ (cidxL (e := eDIntent) (y := y15) rfl rfl tv rfl rfl tv e16) (st (c_ (v := .agg (eDIntent y15)) (cp_ ⟨tv, tv⟩ rfl (nl rfl)) (st (alloc_ (st (stp_ rfl rfl tv rfl rfl rfl (nl rfl) (oe_ (wk_ ⟨[(3, .own 192 0 1 (p5.map eI)), (5, .ptr 320 0), (6, .lst 2 (a0.map eDIntent)), (7, iV (a0.length : Int)), (8, iV p6)], [(320, [iV y15.lease, .bool y15.undo])], []⟩ (fgk (by kernel_rfl)) (reg_ (st (mv_ rfl tv (st (c_ (cp_ ⟨tv, tv⟩ rfl tv) (st (c_ (cp_ ⟨tv, tv⟩ rfl (nl rfl)) (st (mkS_ ⟨tv, tv⟩ ⟨⟨nl rfl, rfl, rfl⟩, tv⟩ ?_))))))))))))))))))
   obtain ⟨c17, h1⟩ := grd h1
   refine st (app_ (e := eI) (l0 := p5) (l1 := ([y15.lease] : List Int)) rfl rfl tv rfl (by decide) c17 (st (mv_ rfl tv (oe_ (bn_ (wk_ ⟨[(3, .own 192 0 1 ((p5 ++ ([y15.lease] : List Int)).map eI)), (6, .lst 2 (a0.map eDIntent)), (7, iV (a0.length : Int)), (8, iV p6)], [], []⟩ (fgk (by kernel_rfl)) (reg_ (st (c_ (cp_ t3 rfl tv) (st (mv_ rfl tv (oe_ ?_))))))))))))
   obtain rfl := Option.some.inj h1
   exact hK1 _ rfl _ ⟨[(3, .own 192 0 1 ((p5 ++ ([y15.lease] : List Int)).map eI)), (6, .lst 2 (a0.map eDIntent)), (7, iV (a0.length : Int)), (8, iV (IntKind.i64.wrap (p6 + 1)))], [], []⟩ (fgk (by kernel_rfl)) rfl
  ·replace h1 := inb c14 h1
   obtain rfl := Option.some.inj h1
   obtain rfl := hx1 _ rfl
   refine exQ rfl ?_
   exact hE1 _ ⟨[(3, .own 192 0 1 (p5.map eI))], [], []⟩ (fgk (by kernel_rfl)) ⟨_, rfl, rfl⟩

/- slices.Grow[[]int,int] -/
def c144_r0 : List Ins := [⟨some 4, .nilS 1, none⟩]
def c144_r1 : List Ins := [(iQ 5 (.mv (.t 1))),
⟨some 6, .p (.bin .lss (.t 5) (.c (iV 0))), none⟩]
def c144_r2 : List Ins := [⟨some 7, .bad, none⟩,
⟨none, .bad, none⟩]
def c144_r3 : List Ins := [(iQ 8 (.mv (.t 1))),
(iQ 9 (.mv (.t 0))),
⟨some 10, .cap (.t 9), none⟩,
(iQ 11 (.mv (.t 0))),
(iQ 12 (.len (.t 11))),
(iQ 13 (.bin .sub (.t 10) (.t 12))),
(iQ 14 (.bin .sub (.t 8) (.t 13))),
(iQ 1 (.mv (.t 14)))]
def c144_r4 : List Ins := [(iQ 15 (.mv (.t 1))),
⟨some 16, .p (.bin .gtr (.t 15) (.c (iV 0))), none⟩]
def c144_r5 : List Ins := [(iQ 17 (.mv (.t 0))),
(iQ 18 (.mv (.t 0))),
⟨some 19, .cap (.t 18), none⟩,
⟨some 20, .p (.slice (.t 17) none (some (.t 19)) 1), none⟩,
(iQ 21 (.mv (.t 1))),
⟨some 22, .appz 1 8 [(iV 0)] (.t 20) (.t 21), none⟩,
(iQ 23 (.mv (.t 0))),
(iQ 24 (.len (.t 23))),
⟨some 25, .p (.slice (.t 22) none (some (.t 24)) 1), none⟩,
(iQ 0 (.mv (.t 25)))]
def c144_r6 : List Ins := [(iQ 26 (.mv (.t 0))),
(iQ 4 (.mv (.t 26)))]
def c144 : XFn := { np := 2, nt := 27, res := [.t 4], body := (.seq (.reg c144_r0) (.seq (.seq (.reg c144_r1) (.ite (.t 6) (.reg c144_r2) .skip)) (.seq (.seq (.reg c144_r3) (.seq (.reg c144_r4) (.ite (.t 16) (.reg c144_r5) .skip))) (.seq (.reg c144_r6) .ret)))) }
def K144 (C : CRel) : Prop := ∀ (a0 : List Int) (a1 : Int) (r : List Int), g144 a0 a1 = some r → C 144 ⟨[.own 1024000 0 1 (a0.map eI), iV a1], []⟩ ⟨.own 0 0 1 (r.map eI), [], []⟩
theorem F144 {C : CRel} (a0 : List Int) (a1 : Int) (r : List Int) (h0 : g144 a0 a1 = some r) : FnOK C c144 ⟨[.own 1024000 0 1 (a0.map eI), iV a1], []⟩ ⟨.own 0 0 1 (r.map eI), [], []⟩ := by
 refine fnc_ (nl rfl) fun f hf => ?_
 obtain ⟨⟨hb, hl⟩, h0⟩ := grd h0
 obtain rfl := Option.some.inj h0
 obtain ⟨n, rfl⟩ := Int.eq_ofNat_of_zero_le hb
 have hn : a0.length + n ≤ 17592186044416 := by omega
 have hbyte : (a0.length + n) * 8 ≤ 140737488355328 := Nat.le_trans (Nat.mul_le_mul_right 8 hn) (by decide)
 obtain ⟨hc1, hc2⟩ := hf 0 1024000 0 1 (a0.map eI) rfl (by decide)
 rw [List.length_map] at hc1
 have hc2 := hc2 rfl
 have w1 : IntKind.i64.wrap ((f 0 : Int) - (a0.length : Int)) = (f 0 : Int) - (a0.length : Int) := wrapI (by omega) (by omega)
 have w2 : IntKind.i64.wrap ((n : Int) - ((f 0 : Int) - (a0.length : Int))) = (n : Int) - ((f 0 : Int) - (a0.length : Int)) := wrapI (by omega) (by omega)
 refine seq_ (reg_ (st (nilS_ (oe_ (wk_ ⟨[(0, .own 1024000 0 1 (a0.map eI)), (1, iV n)], [], [(0, xcap + (f 0 : Int))]⟩ (fgc ⟨rfl, rfl, tv⟩ tv ⟨.inl ⟨_, rfl, .inl rfl⟩, tv⟩) (seq_ (seq_ (reg_ (st (mv_ rfl tv (st (c_ (cp_ t3 rfl tv) (oe_ (wk_ ⟨[(6, .bool (decide ((n : Int) < 0))), (0, .own 1024000 0 1 (a0.map eI)), (1, iV n)], [], [(0, xcap + (f 0 : Int))]⟩ (fgc ⟨rfl, rfl, rfl, tv⟩ tv ⟨.inl ⟨_, rfl, .inl rfl⟩, tv⟩) (ite_ (cb := decide ((n : Int) < 0)) rfl (fun h => absurd (of_decide_eq_true h) (by omega)) (fun _ => (sk_ (wk_ ⟨[(0, .own 1024000 0 1 (a0.map eI)), (1, iV n)], [], [(0, xcap + (f 0 : Int))]⟩ (fgc ⟨rfl, rfl, tv⟩ tv ⟨.inl ⟨_, rfl, .inl rfl⟩, tv⟩) (seq_ (seq_ (reg_ (st (mv_ rfl tv (st (mv_ rfl tv (st (cap_ (e := eI) (l0 := a0) rfl fun c _ _ hc => ?_)))))))))))))))))))))))))))
 have hcf : (c : Int) = (f 0 : Int) := by have := hc _ rfl (by omega); omega
 refine st (mv_ rfl tv (st (c_ (clenO (e := eI) (l0 := a0) rfl rfl tv) (st (c_ (cp_ (v := iV ((f 0 : Int) - (a0.length : Int))) ⟨tv, tv, tv⟩ (congrArg (fun z => some (True, V.int .i64 z)) ((congrArg (fun z => IntKind.i64.wrap (z - (a0.length : Int))) hcf).trans w1)) tv) (st (c_ (cp_ (v := iV ((n : Int) - ((f 0 : Int) - (a0.length : Int)))) ⟨tv, tv, tv⟩ (congrArg (fun z => some (True, V.int .i64 z)) w2) tv) (st (mv_ rfl tv (oe_ (wk_ ⟨[(0, .own 1024000 0 1 (a0.map eI)), (1, iV ((n : Int) - ((f 0 : Int) - (a0.length : Int))))], [], [(0, xcap + (f 0 : Int))]⟩ (fgc ⟨rfl, rfl, tv⟩ tv ⟨.inl ⟨_, rfl, .inl rfl⟩, tv⟩) (seq_ (reg_ (st (mv_ rfl tv (st (c_ (cp_ t3 rfl tv) (oe_ (wk_ ⟨[(16, .bool (decide ((n : Int) - ((f 0 : Int) - (a0.length : Int)) > 0))), (0, .own 1024000 0 1 (a0.map eI)), (1, iV ((n : Int) - ((f 0 : Int) - (a0.length : Int))))], [], [(0, xcap + (f 0 : Int))]⟩ (fgc ⟨rfl, rfl, rfl, tv⟩ tv ⟨.inl ⟨_, rfl, .inl rfl⟩, tv⟩) (ite_ (cb := decide ((n : Int) - ((f 0 : Int) - (a0.length : Int)) > 0)) rfl (fun hgt => ?_) (fun _ => ?_)))))))))))))))))))))
 ·have hgt' : f 0 < a0.length + n := by have := of_decide_eq_true hgt; omega
  obtain ⟨m, hm⟩ : ∃ m : Nat, (n : Int) - ((f 0 : Int) - (a0.length : Int)) = (m : Int) := ⟨a0.length + n - f 0, by omega⟩
  rw [hm]
  refine reg_ (st (mv_ rfl tv (st (mv_ rfl tv (st (cap_ (e := eI) (l0 := a0) rfl fun c2 _ _ hc3 => ?_))))))
  have hcf2 : c2 = f 0 := by have := hc3 _ rfl (by omega); omega
  subst hcf2
  refine st (c_ (sliceUp (e := eI) (l0 := a0) (t := 1024000) (sz := 1) (H := f 0) (c := xcap + (f 0 : Int)) rfl rfl hc1 (show (0 : Nat) < 1 by decide) rfl (by rw [lowC_x]; omega)) (st (mv_ rfl tv (st (appzx_ (e := eo eI 1) (l0 := a0.map some ++ List.replicate (f 0 - a0.length) none) (c := xcap + (f 0 : Int) - 0) (t := 1024000) (some (default : Int)) rfl rfl rfl (by decide) (Int.natCast_nonneg _) ?_ rfl (by omega) ?_ ?_)))))
  ·have e1 : (a0.map some ++ List.replicate (f 0 - a0.length) none).length + m = a0.length + n := by simp; omega
   have := Int.ofNat_le.2 hbyte
   rw [Int.natCast_mul] at this
   rw [← Int.natCast_add, e1]
   exact this
  ·have e1 : (a0.map some ++ List.replicate (f 0 - a0.length) none).length = f 0 := by simp; omega
   rw [e1]; omega
  refine st (mv_ rfl tv (st (c_ (clenO (e := eI) (l0 := a0) rfl rfl tv) ?_)))
  have hk : ((a0.map some ++ List.replicate (f 0 - a0.length) none) ++ List.replicate ((m : Int)).toNat (some (default : Int))).take a0.length = a0.map some := by
   rw [List.append_assoc, List.take_append_of_le_length (by simp), List.take_of_length_le (by simp)]
  have hlen : a0.length ≤ ((a0.map some ++ List.replicate (f 0 - a0.length) none) ++ List.replicate ((m : Int)).toNat (some (default : Int))).length := by simp only [List.length_append, List.length_map]; omega
  generalize (a0.map some ++ List.replicate (f 0 - a0.length) none) ++ List.replicate ((m : Int)).toNat (some (default : Int)) = R at hk hlen
  refine st (c_ (csliceO (e := eo eI 1) (y := a0.map some) rfl rfl tv ⟨tv, tv⟩ rfl rfl (by rw [show (none : Option Int).getD 0 = ((0 : Nat) : Int) from rfl]; exact (slcN R 0 a0.length (by omega) hlen).trans (congrArg some hk))) (st (mv_ rfl tv (oe_ ?_))))
  rw [← eo_some]
  refine wk_ ⟨[(0, .own 1408 0 1 (a0.map eI))], [], []⟩ (fg ⟨rfl, tv⟩ tv) (seq_ (reg_ (st (mv_ rfl tv (st (mv_ rfl tv (oe_ (w0_ ?_))))))))
  exact rt_ (ret_ rfl rfl rfl rfl rfl tv)
 ·refine sk_ ?_
  refine wk_ ⟨[(0, .own 1024000 0 1 (a0.map eI))], [], []⟩ (fg ⟨rfl, tv⟩ tv) (seq_ (reg_ (st (mv_ rfl tv (st (mv_ rfl tv (oe_ (w0_ ?_))))))))
  exact rt_ (ret_ rfl rfl rfl rfl rfl tv)


/- slices.Concat[[]int,int] -/
def c126_r0 : List Ins := [⟨some 2, .nilS 1, none⟩]
def c126_r1 : List Ins := [⟨some 3, .p (.mv (.c (iV 0))), none⟩]
def c126_r2 : List Ins := [(iQ 9 (.mv (.t 0))),
(iQ 10 (.len (.t 9))),
⟨some 11, .p (.mv (.c (iV 0))), none⟩]
def c126_r3 : List Ins := [(iQ 12 (.bin .lss (.t 11) (.t 10)))]
def c126_r4 : List Ins := [(iQ 13 (.idxA (.t 9) (.t 11) 1)),
(iQ 14 (.load (.t 13) 1 false)),
(iQ 5 (.mv (.t 14)))]
def c126_r5 : List Ins := [(iQ 15 (.mv (.t 3))),
(iQ 16 (.mv (.t 5))),
(iQ 17 (.len (.t 16))),
(iQ 18 (.bin .add (.t 15) (.t 17))),
(iQ 3 (.mv (.t 18)))]
def c126_r6 : List Ins := [(iQ 19 (.mv (.t 3))),
⟨some 20, .p (.bin .lss (.t 19) (.c (iV 0))), none⟩]
def c126_r7 : List Ins := [⟨some 21, .bad, none⟩,
⟨none, .bad, none⟩]
def c126_r8 : List Ins := [⟨some 22, .p (.bin .add (.t 11) (.c (iV 1))), none⟩,
(iQ 11 (.mv (.t 22)))]
def c126_l0 : IR := (.seq (.reg c126_r3) (.seq (.ite (.t 12) .skip (.exit 0)) (.seq (.block 1 (.seq (.reg c126_r4) (.seq (.reg c126_r5) (.seq (.reg c126_r6) (.ite (.t 20) (.reg c126_r7) .skip))))) (.reg c126_r8))))
def c126_r9 : List Ins := [(iQ 23 (.mv (.t 3))),
⟨some 24, .call 144 [(.c (.own 1048575 0 1 [])), (.t 23)], none⟩,
(iQ 6 (.mv (.t 24)))]
def c126_r10 : List Ins := [(iQ 25 (.mv (.t 0))),
(iQ 26 (.len (.t 25))),
⟨some 27, .p (.mv (.c (iV 0))), none⟩]
def c126_r11 : List Ins := [(iQ 28 (.bin .lss (.t 27) (.t 26)))]
def c126_r12 : List Ins := [(iQ 29 (.idxA (.t 25) (.t 27) 1)),
(iQ 30 (.load (.t 29) 1 false)),
(iQ 8 (.mv (.t 30)))]
def c126_r13 : List Ins := [(iQ 31 (.mv (.t 6))),
(iQ 32 (.mv (.t 8))),
⟨some 33, .app 1 8 (.t 31) (.t 32), none⟩,
(iQ 6 (.mv (.t 33)))]
def c126_r14 : List Ins := [⟨some 34, .p (.bin .add (.t 27) (.c (iV 1))), none⟩,
(iQ 27 (.mv (.t 34)))]
def c126_l1 : IR := (.seq (.reg c126_r11) (.seq (.ite (.t 28) .skip (.exit 2)) (.seq (.block 3 (.seq (.reg c126_r12) (.reg c126_r13))) (.reg c126_r14))))
def c126_r15 : List Ins := [(iQ 35 (.mv (.t 6))),
(iQ 2 (.mv (.t 35)))]
def c126 : XFn := { np := 1, nt := 36, res := [.t 2], body := (.seq (.reg c126_r0) (.seq (.reg c126_r1) (.seq (.seq (.reg c126_r2) (.block 0 (.loop c126_l0))) (.seq (.reg c126_r9) (.seq (.seq (.reg c126_r10) (.block 2 (.loop c126_l1))) (.seq (.reg c126_r15) .ret)))))) }
def K126 (C : CRel) : Prop := ∀ (a0 : List (List Int)) (r : (List Int)), g126 a0 = some r → C 126 ⟨[.lst 1 (a0.map (eL 1 eI))], []⟩ ⟨.own 0 0 1 (r.map eI), [], []⟩
theorem F126 {C : CRel} (H144 : K144 C) (a0 : List (List Int)) (r : (List Int)) (h0 : g126 a0 = some r) : FnOK C c126 ⟨[.lst 1 (a0.map (eL 1 eI))], []⟩ ⟨.own 0 0 1 (r.map eI), [], []⟩ := by
 refine fn_ (nl rfl) (seq_ (reg_ (st (nilS_ (oe_ (wk_ ⟨[(0, .lst 1 (a0.map (eL 1 eI)))], [], []⟩ (fgk (by kernel_rfl)) (seq_ (reg_ (st (mvc_ tv (oe_ (wk_ ⟨[(0, .lst 1 (a0.map (eL 1 eI))), (3, iV 0)], [], []⟩ (fgk (by kernel_rfl)) (seq_ (seq_ (reg_ (st (mv_ rfl tv (st (c_ (clenL (e := (eL 1 eI)) (l0 := a0) rfl rfl tv) (st (mvc_ tv (oe_ (wk_ ⟨[(0, .lst 1 (a0.map (eL 1 eI))), (3, iV 0), (9, .lst 1 (a0.map (eL 1 eI))), (10, iV (a0.length : Int)), (11, iV 0)], [], []⟩ (fgk (by kernel_rfl)) (block_ ?_))))))))))))))))))))))))
 obtain ⟨r25, e26, h0⟩ := bnd h0
 refine loop_ (R := (fun S => ∃ p15 : Int, p15 = r25 ∧ S = ⟨[(0, .lst 1 (a0.map (eL 1 eI))), (3, iV p15)], [], []⟩)) (g126_l0 a0) (fun s S => match s with | (p6, p7) => S = ⟨[(0, .lst 1 (a0.map (eL 1 eI))), (3, iV p6), (9, .lst 1 (a0.map (eL 1 eI))), (10, iV (a0.length : Int)), (11, iV p7)], [], []⟩) e26 ⟨[(0, .lst 1 (a0.map (eL 1 eI))), (3, iV 0), (9, .lst 1 (a0.map (eL 1 eI))), (10, iV (a0.length : Int)), (11, iV 0)], [], []⟩ (fgk (by kernel_rfl)) rfl 0 (fun _ => rfl) ?_ ?_
 ·rintro S _ hfg ⟨p15, rfl, rfl⟩
  refine wk_ ⟨[(0, .lst 1 (a0.map (eL 1 eI))), (3, iV p15)], [], []⟩ (fglk hfg (by kernel_rfl)) (seq_ (reg_ (st (mv_ rfl tv ?_))))
  obtain ⟨r27, e28, h0⟩ := bnd h0
  refine st (call1_ [] [] [1048575] false (H144 ([] : List Int) p15 r27 e28) ⟨tv, tv, tv⟩ (by kernel_rfl) (by kernel_rfl) (by kernel_rfl) (by kernel_rfl) (fun _ => and_ (and_ (fl1 (fun _ => rfl)) rfl) rfl) (sw ⟨[(0, .lst 1 (a0.map (eL 1 eI))), (24, .own 1536 0 1 (r27.map eI))], [], []⟩ (fgk (by kernel_rfl)) (mv_ rfl tv (oe_ (wk_ ⟨[(0, .lst 1 (a0.map (eL 1 eI))), (6, .own 1536 0 1 (r27.map eI))], [], []⟩ (fgk (by kernel_rfl)) (seq_ (seq_ (reg_ (st (mv_ rfl tv (st (c_ (clenL (e := (eL 1 eI)) (l0 := a0) rfl rfl tv) (st (mvc_ tv (oe_ (wk_ ⟨[(6, .own 1536 0 1 (r27.map eI)), (25, .lst 1 (a0.map (eL 1 eI))), (26, iV (a0.length : Int)), (27, iV 0)], [], []⟩ (fgk (by kernel_rfl)) (block_ ?_)))))))))))))))))
  obtain ⟨r46, e47, h0⟩ := bnd h0
  refine loop_ (R := (fun S => ∃ p41 : List Int, p41 = r46 ∧ S = ⟨[(6, .own 1536 0 1 (p41.map eI))], [], []⟩)) (g126_l1 a0) (fun s S => match s with | (p33, p34) => S = ⟨[(6, .own 1536 0 1 (p33.map eI)), (25, .lst 1 (a0.map (eL 1 eI))), (26, iV (a0.length : Int)), (27, iV p34)], [], []⟩) e47 ⟨[(6, .own 1536 0 1 (r27.map eI)), (25, .lst 1 (a0.map (eL 1 eI))), (26, iV (a0.length : Int)), (27, iV 0)], [], []⟩ (fgk (by kernel_rfl)) rfl 2 (fun _ => rfl) ?_ ?_
  ·rintro S _ hfg ⟨p41, rfl, rfl⟩
   refine wk_ ⟨[(6, .own 1536 0 1 (p41.map eI))], [], []⟩ (fglk hfg (by kernel_rfl)) (seq_ (reg_ (st (mv_ rfl tv (st (mv_ rfl tv (oe_ (wk_ ⟨[(2, .own 1536 0 1 (p41.map eI))], [], []⟩ (fgk (by kernel_rfl)) ?_))))))))
   obtain rfl := Option.some.inj h0
   exact rt_ (ret_ rfl rfl rfl rfl rfl tv)
  ·rintro ⟨p33, p34⟩ o1 _ K1 rfl h1 hx1 hK1 hE1 hR1
   refine seq_ (reg_ (st (c_ (cp_ t3 rfl tv) (oe_ (wk_ ⟨[(6, .own 1536 0 1 (p33.map eI)), (25, .lst 1 (a0.map (eL 1 eI))), (26, iV (a0.length : Int)), (27, iV p34), (28, .bool (decide (p34 < (a0.length : Int))))], [], []⟩ (fgk (by kernel_rfl)) (seq_ (ite_ (cb := (decide (p34 < (a0.length : Int)))) rfl (fun c42 => ?_) (fun c42 => ?_))))))))
   ·replace h1 := ip c42 h1
    refine sk_ (wk_ ⟨[(6, .own 1536 0 1 (p33.map eI)), (25, .lst 1 (a0.map (eL 1 eI))), (26, iV (a0.length : Int)), (27, iV p34)], [], []⟩ (fgk (by kernel_rfl)) (seq_ (block_ (seq_ (reg_ ?_)))))
    obtain ⟨y43, e44, h1⟩ := bnd h1
    refine st (c_ (cidxL (e := (eL 1 eI)) (y := y43) rfl rfl tv rfl rfl tv e44) (st (c_ (cp_ ⟨tv, tv⟩ rfl (nl rfl)) (st (mv_ rfl tv (oe_ (wk_ ⟨[(6, .own 1536 0 1 (p33.map eI)), (8, .lst 1 (y43.map eI)), (25, .lst 1 (a0.map (eL 1 eI))), (26, iV (a0.length : Int)), (27, iV p34)], [], []⟩ (fgk (by kernel_rfl)) (reg_ (st (mv_ rfl tv (st (mv_ rfl tv ?_))))))))))))
    obtain ⟨c45, h1⟩ := grd h1
    refine st (app_ (e := eI) (l0 := p33) (l1 := y43) rfl rfl tv rfl (by decide) c45 (st (mv_ rfl tv (oe_ (bn_ (wk_ ⟨[(6, .own 1536 0 1 ((p33 ++ y43).map eI)), (25, .lst 1 (a0.map (eL 1 eI))), (26, iV (a0.length : Int)), (27, iV p34)], [], []⟩ (fgk (by kernel_rfl)) (reg_ (st (c_ (cp_ t3 rfl tv) (st (mv_ rfl tv (oe_ ?_))))))))))))
    obtain rfl := Option.some.inj h1
    exact hK1 _ rfl _ ⟨[(6, .own 1536 0 1 ((p33 ++ y43).map eI)), (25, .lst 1 (a0.map (eL 1 eI))), (26, iV (a0.length : Int)), (27, iV (IntKind.i64.wrap (p34 + 1)))], [], []⟩ (fgk (by kernel_rfl)) rfl
   ·replace h1 := inb c42 h1
    obtain rfl := Option.some.inj h1
    obtain rfl := hx1 _ rfl
    refine exQ rfl ?_
    exact hE1 _ ⟨[(6, .own 1536 0 1 (p33.map eI))], [], []⟩ (fgk (by kernel_rfl)) ⟨_, rfl, rfl⟩
 ·rintro ⟨p6, p7⟩ o1 _ K1 rfl h1 hx1 hK1 hE1 hR1
  refine seq_ (reg_ (st (c_ (cp_ t3 rfl tv) (oe_ (wk_ ⟨[(0, .lst 1 (a0.map (eL 1 eI))), (3, iV p6), (9, .lst 1 (a0.map (eL 1 eI))), (10, iV (a0.length : Int)), (11, iV p7), (12, .bool (decide (p7 < (a0.length : Int))))], [], []⟩ (fgk (by kernel_rfl)) (seq_ (ite_ (cb := (decide (p7 < (a0.length : Int)))) rfl (fun c16 => ?_) (fun c16 => ?_))))))))
  ·replace h1 := ip c16 h1
   refine sk_ (wk_ ⟨[(0, .lst 1 (a0.map (eL 1 eI))), (3, iV p6), (9, .lst 1 (a0.map (eL 1 eI))), (10, iV (a0.length : Int)), (11, iV p7)], [], []⟩ (fgk (by kernel_rfl)) (seq_ (blockJ (fun S => ∃ p20 : Int, S = ⟨[(0, .lst 1 (a0.map (eL 1 eI))), (3, iV p20), (9, .lst 1 (a0.map (eL 1 eI))), (10, iV (a0.length : Int)), (11, iV p7)], [], []⟩ ∧ g126_j0 p7 p20 = some o1) ?_ (fun J21 => ?_))))
   ·rintro _ ⟨p20, rfl, h1⟩
    refine wk_ ⟨[(0, .lst 1 (a0.map (eL 1 eI))), (3, iV p20), (9, .lst 1 (a0.map (eL 1 eI))), (10, iV (a0.length : Int)), (11, iV p7)], [], []⟩ (fgk (by kernel_rfl)) (reg_ (st (c_ (cp_ t3 rfl tv) (st (mv_ rfl tv (oe_ ?_))))))
    obtain rfl := Option.some.inj h1
    exact hK1 _ rfl _ ⟨[(0, .lst 1 (a0.map (eL 1 eI))), (3, iV p20), (9, .lst 1 (a0.map (eL 1 eI))), (10, iV (a0.length : Int)), (11, iV (IntKind.i64.wrap (p7 + 1)))], [], []⟩ (fgk (by kernel_rfl)) rfl
   ·refine seq_ ?_
    refine reg_ ?_
    obtain ⟨y22, e23, h1⟩ := bnd h1
    refine st (c_ (cidxL (e := (eL 1 eI)) (y := y22) rfl rfl tv rfl rfl tv e23) (st (c_ (cp_ ⟨tv, tv⟩ rfl (nl rfl)) (st (mv_ rfl tv (oe_ (wk_ ⟨[(0, .lst 1 (a0.map (eL 1 eI))), (3, iV p6), (5, .lst 1 (y22.map eI)), (9, .lst 1 (a0.map (eL 1 eI))), (10, iV (a0.length : Int)), (11, iV p7)], [], []⟩ (fgk (by kernel_rfl)) (seq_ (reg_ (st (mv_ rfl tv (st (mv_ rfl tv (st (c_ (clenL (e := eI) (l0 := y22) rfl rfl tv) (st (c_ (cp_ t3 rfl tv) (st (mv_ rfl tv (oe_ (wk_ ⟨[(0, .lst 1 (a0.map (eL 1 eI))), (3, iV (IntKind.i64.wrap (p6 + (y22.length : Int)))), (9, .lst 1 (a0.map (eL 1 eI))), (10, iV (a0.length : Int)), (11, iV p7)], [], []⟩ (fgk (by kernel_rfl)) (seq_ (reg_ (st (mv_ rfl tv (st (c_ (cp_ t3 rfl tv) (oe_ (wk_ ⟨[(0, .lst 1 (a0.map (eL 1 eI))), (3, iV (IntKind.i64.wrap (p6 + (y22.length : Int)))), (9, .lst 1 (a0.map (eL 1 eI))), (10, iV (a0.length : Int)), (11, iV p7), (20, .bool (decide ((IntKind.i64.wrap (p6 + (y22.length : Int))) < 0)))], [], []⟩ (fgk (by kernel_rfl)) (ite_ (cb := (decide ((IntKind.i64.wrap (p6 + (y22.length : Int))) < 0))) rfl (fun c24 => ?_) (fun c24 => ?_)))))))))))))))))))))))))))))))
    ·replace h1 := ip c24 h1
     refine reg_ ?_
     cases h1
    ·replace h1 := inb c24 h1
     refine sk_ (bn_ ?_)
     exact J21 _ ⟨[(0, .lst 1 (a0.map (eL 1 eI))), (3, iV (IntKind.i64.wrap (p6 + (y22.length : Int)))), (9, .lst 1 (a0.map (eL 1 eI))), (10, iV (a0.length : Int)), (11, iV p7)], [], []⟩ (fgk (by kernel_rfl)) ⟨_, rfl, h1⟩
  ·replace h1 := inb c16 h1
   obtain rfl := Option.some.inj h1
   obtain rfl := hx1 _ rfl
   refine exQ rfl ?_
   exact hE1 _ ⟨[(0, .lst 1 (a0.map (eL 1 eI))), (3, iV p6)], [], []⟩ (fgk (by kernel_rfl)) ⟨_, rfl, rfl⟩

/- slices.IndexFunc[[]int,int] -/
def c127_r0 : List Ins := [⟨some 4, .p (.mv (.c (iV 0))), none⟩]
def c127_r1 : List Ins := [(iQ 6 (.mv (.t 0))),
(iQ 7 (.len (.t 6))),
⟨some 8, .p (.mv (.c (iV 0))), none⟩]
def c127_r2 : List Ins := [(iQ 9 (.bin .lss (.t 8) (.t 7)))]
def c127_r3 : List Ins := [(iQ 10 (.mv (.t 8))),
(iQ 5 (.mv (.t 10)))]
def c127_r4 : List Ins := [(iQ 11 (.mv (.t 1))),
(iQ 12 (.mv (.t 0))),
(iQ 13 (.mv (.t 5))),
(iQ 14 (.idxA (.t 12) (.t 13) 1)),
(iQ 15 (.load (.t 14) 1 false)),
⟨some 16, .callv (.t 11) [(.t 15)], none⟩]
def c127_r5 : List Ins := [(iQ 17 (.mv (.t 5))),
(iQ 4 (.mv (.t 17)))]
def c127_r6 : List Ins := [⟨some 18, .p (.bin .add (.t 8) (.c (iV 1))), none⟩,
(iQ 8 (.mv (.t 18)))]
def c127_l0 : IR := (.seq (.reg c127_r2) (.seq (.ite (.t 9) .skip (.exit 0)) (.seq (.block 1 (.seq (.reg c127_r3) (.seq (.reg c127_r4) (.ite (.t 16) (.seq (.reg c127_r5) .ret) .skip)))) (.reg c127_r6))))
def c127_r7 : List Ins := [⟨some 4, .p (.mv (.c (iV (-1)))), none⟩]
def c127 : XFn := { np := 2, nt := 19, res := [.t 4], body := (.seq (.reg c127_r0) (.seq (.seq (.reg c127_r1) (.block 0 (.loop c127_l0))) (.seq (.reg c127_r7) .ret))) }
def K127 (C : CRel) : Prop := ∀ (a0 : List Int) (f1 : Nat) (k1 : List V) (is1 : Int → Option Bool) (hs1 : Shut k1) (hf1 : ∀ (x0 : Int) r, is1 x0 = some r → C f1 ⟨iV x0 :: k1, []⟩ ⟨.bool r, [], []⟩) (r : Int), g127 a0 is1 = some r → C 127 ⟨[.lst 1 (a0.map eI), .clo f1 k1], []⟩ ⟨iV r, [], []⟩
theorem F127 {C : CRel}  (a0 : List Int) (f1 : Nat) (k1 : List V) (is1 : Int → Option Bool) (hs1 : Shut k1) (hf1 : ∀ (x0 : Int) r, is1 x0 = some r → C f1 ⟨iV x0 :: k1, []⟩ ⟨.bool r, [], []⟩) (r : Int) (h0 : g127 a0 is1 = some r) : FnOK C c127 ⟨[.lst 1 (a0.map eI), .clo f1 k1], []⟩ ⟨iV r, [], []⟩ := by
 refine fn_ (nl rfl) (seq_ (reg_ (st (mvc_ tv (oe_ (wk_ ⟨[(0, .lst 1 (a0.map eI)), (1, .clo f1 k1)], [], []⟩ (fg ⟨rfl, rfl, tv⟩ tv) (seq_ (seq_ (reg_ (st (mv_ rfl tv (st (c_ (clenL (e := eI) (l0 := a0) rfl rfl tv) (st (mvc_ tv (oe_ (wk_ ⟨[(0, .lst 1 (a0.map eI)), (1, .clo f1 k1), (7, iV (a0.length : Int)), (8, iV 0)], [], []⟩ (fg ⟨rfl, rfl, rfl, rfl, tv⟩ tv) (block_ ?_))))))))))))))))))
 obtain ⟨r21, e22, h0⟩ := bnd h0
 refine loop_ (R := (fun S => .inl () = r21 ∧ S = ⟨[], [], []⟩)) (g127_l0 a0 is1) (fun s S => match s with | p7 => S = ⟨[(0, .lst 1 (a0.map eI)), (1, .clo f1 k1), (7, iV (a0.length : Int)), (8, iV p7)], [], []⟩) e22 ⟨[(0, .lst 1 (a0.map eI)), (1, .clo f1 k1), (7, iV (a0.length : Int)), (8, iV 0)], [], []⟩ (fg ⟨rfl, rfl, rfl, rfl, tv⟩ tv) rfl 0 (fun _ => rfl) ?_ ?_
 ·rintro S _ hfg ⟨rfl, rfl⟩
  refine wk_ ⟨[], [], []⟩ (fglk hfg (by kernel_rfl)) (seq_ (reg_ (st (mvc_ tv (oe_ (wk_ ⟨[(4, iV (-1))], [], []⟩ (fgk (by kernel_rfl)) ?_))))))
  obtain rfl := Option.some.inj h0
  exact rt_ (ret_ rfl rfl rfl rfl rfl tv)
 ·rintro p7 o1 _ K1 rfl h1 hx1 hK1 hE1 hR1
  refine seq_ (reg_ (st (c_ (cp_ t3 rfl tv) (oe_ (wk_ ⟨[(0, .lst 1 (a0.map eI)), (1, .clo f1 k1), (7, iV (a0.length : Int)), (8, iV p7), (9, .bool (decide (p7 < (a0.length : Int))))], [], []⟩ (fg ⟨rfl, rfl, rfl, rfl, rfl, tv⟩ tv) (seq_ (ite_ (cb := (decide (p7 < (a0.length : Int)))) rfl (fun c15 => ?_) (fun c15 => ?_))))))))
  ·replace h1 := ip c15 h1
   refine sk_ (wk_ ⟨[(0, .lst 1 (a0.map eI)), (1, .clo f1 k1), (7, iV (a0.length : Int)), (8, iV p7)], [], []⟩ (fg ⟨rfl, rfl, rfl, rfl, tv⟩ tv) (seq_ (block_ (seq_ (reg_ (st (mv_ rfl tv (st (mv_ rfl tv (oe_ (wk_ ⟨[(0, .lst 1 (a0.map eI)), (1, .clo f1 k1), (5, iV p7), (7, iV (a0.length : Int)), (8, iV p7)], [], []⟩ (fg ⟨rfl, rfl, rfl, rfl, rfl, tv⟩ tv) (seq_ (reg_ (st (mv_ rfl tv (st (mv_ rfl tv (st (mv_ rfl tv ?_)))))))))))))))))))
   obtain ⟨y16, e17, h1⟩ := bnd h1
   refine st (c_ (cidxL (e := eI) (y := y16) rfl rfl tv rfl rfl tv e17) (st (c_ (cp_ ⟨tv, tv⟩ rfl (nl rfl)) ?_)))
   obtain ⟨r18, e19, h1⟩ := bnd h1
   refine st (callv0_ (r := .bool r18) rfl false (hf1 _ r18 e19) ⟨tv, tv⟩ (and_ rfl hs1.2.2.1) (mapc1 rfl (hs1.2.1 _ _ _ _ _)) (fun _ => rfl) (oe_ (wk_ ⟨[(0, .lst 1 (a0.map eI)), (1, .clo f1 k1), (5, iV p7), (7, iV (a0.length : Int)), (8, iV p7), (16, .bool r18)], [], []⟩ (fg ⟨rfl, rfl, rfl, rfl, rfl, rfl, tv⟩ tv) (ite_ (cb := r18) rfl (fun c20 => ?_) (fun c20 => ?_)))))
   ·replace h1 := ip c20 h1
    refine seq_ (reg_ (st (mv_ rfl tv (st (mv_ rfl tv (oe_ (wk_ ⟨[(4, iV p7)], [], []⟩ (fgk (by kernel_rfl)) ?_)))))))
    obtain rfl := Option.some.inj h1
    obtain rfl := hx1 _ rfl
    obtain rfl := Option.some.inj h0
    exact rt_ (hR1 _ (ret_ rfl rfl rfl rfl rfl tv))
   ·replace h1 := inb c20 h1
    refine sk_ (bn_ (wk_ ⟨[(0, .lst 1 (a0.map eI)), (1, .clo f1 k1), (7, iV (a0.length : Int)), (8, iV p7)], [], []⟩ (fg ⟨rfl, rfl, rfl, rfl, tv⟩ tv) (reg_ (st (c_ (cp_ t3 rfl tv) (st (mv_ rfl tv (oe_ ?_))))))))
    obtain rfl := Option.some.inj h1
    exact hK1 _ rfl _ ⟨[(0, .lst 1 (a0.map eI)), (1, .clo f1 k1), (7, iV (a0.length : Int)), (8, iV (IntKind.i64.wrap (p7 + 1)))], [], []⟩ (fg ⟨rfl, rfl, rfl, rfl, tv⟩ tv) rfl
  ·replace h1 := inb c15 h1
   obtain rfl := Option.some.inj h1
   obtain rfl := hx1 _ rfl
   refine exQ rfl ?_
   exact hE1 _ ⟨[], [], []⟩ (fgk (by kernel_rfl)) ⟨rfl, rfl⟩

/- (loop.example/g00149/impl.Vault).stray$1 -/
def c128_r0 : List Ins := [⟨some 3, .p (.mv (.c (.bool false))), none⟩]
def c128_r1 : List Ins := [(iQ 4 (.load (.t 1) 1 false)),
(iQ 5 (.mv (.t 0))),
(iQ 6 (.mget (.t 4) (.t 5))),
(iQ 7 (.un .not (.t 6))),
(iQ 3 (.mv (.t 7)))]
def c128 : XFn := { np := 2, nt := 8, res := [.t 3], body := (.seq (.reg c128_r0) (.seq (.reg c128_r1) .ret)) }
def K128 (C : CRel) : Prop := ∀ (a0 : Int) (a1 : List (Int × Bool)) (r : Bool), g128 a0 a1 = some r → C 128 ⟨[iV a0, .iptr [.lst 0 (kvV a1)]], []⟩ ⟨.bool r, [], []⟩
theorem F128 {C : CRel}  (a0 : Int) (a1 : List (Int × Bool)) (r : Bool) (h0 : g128 a0 a1 = some r) : FnOK C c128 ⟨[iV a0, .iptr [.lst 0 (kvV a1)]], []⟩ ⟨.bool r, [], []⟩ := by
 refine fn_ (nl rfl) (seq_ (reg_ (st (mvc_ tv (oe_ (wk_ ⟨[(0, iV a0), (1, .iptr [.lst 0 (kvV a1)])], [], []⟩ (fgk (by kernel_rfl)) (seq_ (reg_ (st (c_ (cp_ ⟨tv, tv⟩ rfl (nl rfl)) (st (mv_ rfl tv (st (c_ (cmgetL rfl rfl) (st (c_ (cp_ ⟨tv, tv⟩ rfl tv) (st (mv_ rfl tv (oe_ (wk_ ⟨[(3, .bool (!(kvGet a1 a0)))], [], []⟩ (fgk (by kernel_rfl)) ?_))))))))))))))))))))
 obtain rfl := Option.some.inj h0
 exact rt_ (ret_ rfl rfl rfl rfl rfl tv)

/- (loop.example/g00149/impl.Vault).stray -/
def c96_r0 : List Ins := [⟨some 1, .box (.t 0), none⟩,
⟨some 2, .p (.mv (.c (iV 0))), none⟩,
⟨some 3, .p (.mv (.c (.bool false))), none⟩]
def c96_r1 : List Ins := [⟨some 8, .mkM, none⟩,
⟨some 4, .alloc [.undef], none⟩,
⟨none, .store (.t 4) (.t 8) 1, none⟩]
def c96_r2 : DP := (.take (iQ 9 (.fieldA (.t 1) 0))
(.take (iQ 10 (.load (.t 9) 3 true))
(.take (iQ 12 (.fieldA (.t 1) 3))
(.take (iQ 13 (.load (.t 12) 1 false))
(.take ⟨some 18, .p (.mv (.c (iV 0))), none⟩
(.alt [⟨some 18, .p (.mv (.c (iV 0))), none⟩, (iQ 13 (.load (.t 12) 1 false)), (iQ 12 (.fieldA (.t 1) 3))] ⟨some 11, .call 60 [(.t 10)], none⟩
(.alt [⟨some 18, .p (.mv (.c (iV 0))), none⟩] ⟨some 14, .call 95 [(.t 13)], none⟩
(.alt [⟨some 18, .p (.mv (.c (iV 0))), none⟩] ⟨some 15, .mkS 1 [(.lst 1 [])] 2 [(0, (.t 11)), (1, (.t 14))], none⟩
(.alt [⟨some 18, .p (.mv (.c (iV 0))), none⟩] ⟨some 16, .call 126 [(.t 15)], none⟩
(.take (iQ 17 (.len (.t 16)))
.fin)
.stop)
.stop)
.stop)
.stop))))))
def c96_r3 : List Ins := [(iQ 19 (.bin .lss (.t 18) (.t 17)))]
def c96_r4 : List Ins := [(iQ 20 (.idxA (.t 16) (.t 18) 1)),
(iQ 21 (.load (.t 20) 1 false)),
(iQ 6 (.mv (.t 21)))]
def c96_r5 : List Ins := [(iQ 22 (.load (.t 4) 1 false)),
(iQ 23 (.mv (.t 6))),
⟨none, .mset (.t 22) (.t 23) (.c (.bool true)), none⟩]
def c96_r6 : List Ins := [⟨some 24, .p (.bin .add (.t 18) (.c (iV 1))), none⟩,
(iQ 18 (.mv (.t 24)))]
def c96_l0 : IR := (.seq (.reg c96_r3) (.seq (.ite (.t 19) .skip (.exit 0)) (.seq (.block 1 (.seq (.reg c96_r4) (.reg c96_r5))) (.reg c96_r6))))
def c96_r7 : List Ins := [(iQ 25 (.fieldA (.t 1) 4)),
(iQ 26 (.load (.t 25) 1 false)),
(iQ 27 (.fn 128 [(.t 4)])),
⟨some 28, .call 127 [(.t 26), (.t 27)], none⟩,
(iQ 7 (.mv (.t 28)))]
def c96_r8 : List Ins := [(iQ 29 (.mv (.t 7))),
⟨some 30, .p (.bin .lss (.t 29) (.c (iV 0))), none⟩]
def c96_r9 : List Ins := [⟨some 2, .p (.mv (.c (iV 0))), none⟩,
⟨some 3, .p (.mv (.c (.bool false))), none⟩]
def c96_r10 : List Ins := [(iQ 31 (.fieldA (.t 1) 4)),
(iQ 32 (.load (.t 31) 1 false)),
(iQ 33 (.mv (.t 7))),
(iQ 34 (.idxA (.t 32) (.t 33) 1)),
(iQ 35 (.load (.t 34) 1 false)),
(iQ 2 (.mv (.t 35))),
⟨some 3, .p (.mv (.c (.bool true))), none⟩]
def c96 : XFn := { np := 1, nt := 36, res := [.t 2, .t 3], body := (.seq (.reg c96_r0) (.seq (.reg c96_r1) (.seq (.seq (.draw c96_r2) (.block 0 (.loop c96_l0))) (.seq (.reg c96_r7) (.seq (.seq (.reg c96_r8) (.ite (.t 30) (.seq (.reg c96_r9) .ret) .skip)) (.seq (.reg c96_r10) .ret)))))) }
def K96 (C : CRel) : Prop := ∀ (a0 : DVault) (r : Int × Bool), g96 a0 = some r → C 96 ⟨[.agg (eDVault a0)], []⟩ ⟨.tup [iV r.1, .bool r.2], [], []⟩
theorem F96 {C : CRel} (H60 : K60 C) (H95 : K95 C) (H126 : K126 C) (H127 : K127 C) (H128 : K128 C) (a0 : DVault) (r : Int × Bool) (h0 : g96 a0 = some r) : FnOK C c96 ⟨[.agg (eDVault a0)], []⟩ ⟨.tup [iV r.1, .bool r.2], [], []⟩ := by
 refine fn_ (nl rfl) (seq_ (reg_ (st (box_ rfl tv rfl (st (mvc_ tv (st (mvc_ tv (oe_ (wk_ ⟨[(1, .ptr 64 0)], [(64, [iV a0.table.clock, iV a0.table.next, .lst 4 (a0.table.list_.map eDLease), .lst 2 (a0.intents.map eDIntent), .lst 1 (a0.accounts.map eI), .bool a0.sealed])], []⟩ (fgk (by kernel_rfl)) (seq_ (reg_ (st (mkM_ (st (alloc_ (st (stp_ rfl rfl tv rfl rfl rfl (nl rfl) (oe_ (wk_ ⟨[(1, .ptr 64 0), (4, .ptr 256 0)], [(64, [iV a0.table.clock, iV a0.table.next, .lst 4 (a0.table.list_.map eDLease), .lst 2 (a0.intents.map eDIntent), .lst 1 (a0.accounts.map eI), .bool a0.sealed]), (256, [.own 512 0 0 (kvV ([] : List (Int × Bool)))])], []⟩ (fgk (by kernel_rfl)) (seq_ (seq_ ?_))))))))))))))))))))))
 obtain ⟨r1, e2, h0⟩ := bnd h0
 obtain ⟨r3, e4, h0⟩ := bnd h0
 obtain ⟨r5, e6, h0⟩ := bnd h0
 refine draw_ (dtake tv (c_ (cp_ ⟨tv, tv⟩ rfl tv) (⟨tv, (dtake tv (c_ (v := .agg [iV a0.table.clock, iV a0.table.next, .lst 4 (a0.table.list_.map eDLease)]) (cp_ ⟨tv, tv⟩ rfl (nl rfl)) (⟨tv, (dtake tv (c_ (cp_ ⟨tv, tv⟩ rfl tv) (⟨tv, (dtake tv (c_ (cp_ ⟨tv, tv⟩ rfl (nl rfl)) (⟨tv, (dtake tv (mvc_ tv (⟨tv, (dalt (call0_ (r := .own 0 0 1 (r1.map eI)) false (H60 a0.table r1 e2) ⟨tv, tv⟩ rfl rfl (fun _ => (and_ (fl1 (fun _ => rfl)) rfl)) (dkw ⟨[(1, .ptr 64 0), (4, .ptr 256 0), (11, .own 704 0 1 (r1.map eI)), (12, .ptr 64 3), (13, .lst 2 (a0.intents.map eDIntent)), (18, iV 0)], [(64, [iV a0.table.clock, iV a0.table.next, .lst 4 (a0.table.list_.map eDLease), .lst 2 (a0.intents.map eDIntent), .lst 1 (a0.accounts.map eI), .bool a0.sealed]), (256, [.own 512 0 0 (kvV ([] : List (Int × Bool)))])], []⟩ (fgk (by kernel_rfl)) ⟨[], ⟨⟨.inl tv, (again1 (cp_ ⟨tv, tv⟩ rfl tv) rfl)⟩, ⟨.inl tv, (again1 (cp_ ⟨tv, tv⟩ rfl (nl rfl)) rfl)⟩, ⟨.inl tv, (again1 (cp_ ⟨tv, tv⟩ rfl tv) rfl)⟩, tv⟩, tv, (dalt (call0_ (r := .own 0 0 1 (r3.map eI)) false (H95 a0.intents r3 e4) ⟨tv, tv⟩ rfl rfl (fun _ => (and_ (fl1 (fun _ => rfl)) rfl)) (dkw ⟨[(1, .ptr 64 0), (4, .ptr 256 0), (11, .own 704 0 1 (r1.map eI)), (14, .own 896 0 1 (r3.map eI)), (18, iV 0)], [(64, [iV a0.table.clock, iV a0.table.next, .lst 4 (a0.table.list_.map eDLease), .lst 2 (a0.intents.map eDIntent), .lst 1 (a0.accounts.map eI), .bool a0.sealed]), (256, [.own 512 0 0 (kvV ([] : List (Int × Bool)))])], []⟩ (fgk (by kernel_rfl)) ⟨[], ⟨⟨.inl tv, (again1 (cp_ ⟨tv, tv⟩ rfl tv) rfl)⟩, tv⟩, tv, (dalt (mkS_ ⟨tv, tv, tv⟩ ⟨⟨nl rfl, rfl, rfl⟩, ⟨nl rfl, rfl, rfl⟩, tv⟩ (dk0 ⟨[], ⟨⟨.inl tv, (again1 (cp_ ⟨tv, tv⟩ rfl tv) rfl)⟩, tv⟩, tv, (dalt (call0_ (r := .own 0 0 1 (r5.map eI)) false (H126 ([r1, r3] : List (List Int)) r5 e6) ⟨tv, tv⟩ rfl rfl (fun _ => (and_ (fl1 (fun _ => rfl)) rfl)) (dkw ⟨[(1, .ptr 64 0), (4, .ptr 256 0), (16, .own 1024 0 1 (r5.map eI)), (18, iV 0)], [(64, [iV a0.table.clock, iV a0.table.next, .lst 4 (a0.table.list_.map eDLease), .lst 2 (a0.intents.map eDIntent), .lst 1 (a0.accounts.map eI), .bool a0.sealed]), (256, [.own 512 0 0 (kvV ([] : List (Int × Bool)))])], []⟩ (fgk (by kernel_rfl)) ⟨[], ⟨⟨.inl tv, (again1 (cp_ ⟨tv, tv⟩ rfl tv) rfl)⟩, tv⟩, tv, (dtake tv (c_ (clenO (e := eI) (l0 := r5) rfl rfl tv) (⟨tv, (dfin (wk_ ⟨[(1, .ptr 64 0), (4, .ptr 256 0), (16, .own 1024 0 1 (r5.map eI)), (17, iV (r5.length : Int)), (18, iV 0)], [(64, [iV a0.table.clock, iV a0.table.next, .lst 4 (a0.table.list_.map eDLease), .lst 2 (a0.intents.map eDIntent), .lst 1 (a0.accounts.map eI), .bool a0.sealed]), (256, [.own 512 0 0 (kvV ([] : List (Int × Bool)))])], []⟩ (fgk (by kernel_rfl)) (block_ ?_)))⟩)))⟩)) dstop)⟩)) dstop)⟩)) dstop)⟩)) dstop)⟩)))⟩)))⟩)))⟩)))⟩)))
 obtain ⟨r27, e28, h0⟩ := bnd h0
 refine loop_ (R := (fun S => ∃ p21 : List (Int × Bool), p21 = r27 ∧ S = ⟨[(1, .ptr 64 0), (4, .ptr 256 0)], [(64, [iV a0.table.clock, iV a0.table.next, .lst 4 (a0.table.list_.map eDLease), .lst 2 (a0.intents.map eDIntent), .lst 1 (a0.accounts.map eI), .bool a0.sealed]), (256, [.own 512 0 0 (kvV p21)])], []⟩)) (g96_l0 r5) (fun s S => match s with | (p12, p13) => S = ⟨[(1, .ptr 64 0), (4, .ptr 256 0), (16, .own 1024 0 1 (r5.map eI)), (17, iV (r5.length : Int)), (18, iV p12)], [(64, [iV a0.table.clock, iV a0.table.next, .lst 4 (a0.table.list_.map eDLease), .lst 2 (a0.intents.map eDIntent), .lst 1 (a0.accounts.map eI), .bool a0.sealed]), (256, [.own 512 0 0 (kvV p13)])], []⟩) e28 ⟨[(1, .ptr 64 0), (4, .ptr 256 0), (16, .own 1024 0 1 (r5.map eI)), (17, iV (r5.length : Int)), (18, iV 0)], [(64, [iV a0.table.clock, iV a0.table.next, .lst 4 (a0.table.list_.map eDLease), .lst 2 (a0.intents.map eDIntent), .lst 1 (a0.accounts.map eI), .bool a0.sealed]), (256, [.own 512 0 0 (kvV ([] : List (Int × Bool)))])], []⟩ (fgk (by kernel_rfl)) rfl 0 (fun _ => rfl) ?_ ?_
 ·rintro S _ hfg ⟨p21, rfl, rfl⟩
  refine wk_ ⟨[(1, .ptr 64 0), (4, .ptr 256 0)], [(64, [iV a0.table.clock, iV a0.table.next, .lst 4 (a0.table.list_.map eDLease), .lst 2 (a0.intents.map eDIntent), .lst 1 (a0.accounts.map eI), .bool a0.sealed]), (256, [.own 512 0 0 (kvV p21)])], []⟩ (fglk hfg (by kernel_rfl)) (seq_ (reg_ (st (c_ (cp_ ⟨tv, tv⟩ rfl tv) (st (c_ (cp_ ⟨tv, tv⟩ rfl (nl rfl)) (st (c_ (cp_ ⟨tv, tv⟩ rfl rfl) ?_))))))))
  obtain ⟨r29, e30, h0⟩ := bnd h0
  refine st (call0_ (r := iV r29) false (H127 a0.accounts 128 [.iptr [.lst 0 (kvV p21)]] (fun z128_0 => g128 z128_0 p21) (⟨fun _ _ _ _ _ => rfl, fun _ _ _ _ _ => rfl, rfl, fun _ _ _ n => by cases n <;> rfl, fun _ => rfl⟩) (fun z128_0 r h => H128 z128_0 p21 r h) r29 e30) ⟨tv, tv, tv⟩ rfl rfl (fun _ => rfl) (st (mv_ rfl tv (oe_ (wk_ ⟨[(1, .ptr 64 0), (7, iV r29)], [(64, [iV a0.table.clock, iV a0.table.next, .lst 4 (a0.table.list_.map eDLease), .lst 2 (a0.intents.map eDIntent), .lst 1 (a0.accounts.map eI), .bool a0.sealed])], []⟩ (fgk (by kernel_rfl)) (seq_ (seq_ (reg_ (st (mv_ rfl tv (st (c_ (cp_ t3 rfl tv) (oe_ (wk_ ⟨[(1, .ptr 64 0), (7, iV r29), (30, .bool (decide (r29 < 0)))], [(64, [iV a0.table.clock, iV a0.table.next, .lst 4 (a0.table.list_.map eDLease), .lst 2 (a0.intents.map eDIntent), .lst 1 (a0.accounts.map eI), .bool a0.sealed])], []⟩ (fgk (by kernel_rfl)) (ite_ (cb := (decide (r29 < 0))) rfl (fun c31 => ?_) (fun c31 => ?_))))))))))))))))
  ·replace h0 := ip c31 h0
   refine seq_ (reg_ (st (mvc_ tv (st (mvc_ tv (oe_ (wk_ ⟨[(2, iV 0), (3, .bool false)], [], []⟩ (fgk (by kernel_rfl)) ?_)))))))
   obtain rfl := Option.some.inj h0
   exact rt_ (ret_ rfl rfl rfl rfl rfl tv)
  ·replace h0 := inb c31 h0
   refine sk_ (wk_ ⟨[(1, .ptr 64 0), (7, iV r29)], [(64, [iV a0.table.clock, iV a0.table.next, .lst 4 (a0.table.list_.map eDLease), .lst 2 (a0.intents.map eDIntent), .lst 1 (a0.accounts.map eI), .bool a0.sealed])], []⟩ (fgk (by kernel_rfl)) (seq_ (reg_ (st (c_ (cp_ ⟨tv, tv⟩ rfl tv) (st (c_ (cp_ ⟨tv, tv⟩ rfl (nl rfl)) (st (mv_ rfl tv ?_)))))))))
   obtain ⟨y32, e33, h0⟩ := bnd h0
   refine st (c_ (cidxL (e := eI) (y := y32) rfl rfl tv rfl rfl tv e33) (st (c_ (cp_ ⟨tv, tv⟩ rfl (nl rfl)) (st (mv_ rfl tv (st (mvc_ tv (oe_ (wk_ ⟨[(2, iV y32), (3, .bool true)], [], []⟩ (fgk (by kernel_rfl)) ?_)))))))))
   obtain rfl := Option.some.inj h0
   exact rt_ (ret_ rfl rfl rfl rfl rfl tv)
 ·rintro ⟨p12, p13⟩ o1 _ K1 rfl h1 hx1 hK1 hE1 hR1
  refine seq_ (reg_ (st (c_ (cp_ t3 rfl tv) (oe_ (wk_ ⟨[(1, .ptr 64 0), (4, .ptr 256 0), (16, .own 1024 0 1 (r5.map eI)), (17, iV (r5.length : Int)), (18, iV p12), (19, .bool (decide (p12 < (r5.length : Int))))], [(64, [iV a0.table.clock, iV a0.table.next, .lst 4 (a0.table.list_.map eDLease), .lst 2 (a0.intents.map eDIntent), .lst 1 (a0.accounts.map eI), .bool a0.sealed]), (256, [.own 512 0 0 (kvV p13)])], []⟩ (fgk (by kernel_rfl)) (seq_ (ite_ (cb := (decide (p12 < (r5.length : Int)))) rfl (fun c22 => ?_) (fun c22 => ?_))))))))
  ·replace h1 := ip c22 h1
   refine sk_ (wk_ ⟨[(1, .ptr 64 0), (4, .ptr 256 0), (16, .own 1024 0 1 (r5.map eI)), (17, iV (r5.length : Int)), (18, iV p12)], [(64, [iV a0.table.clock, iV a0.table.next, .lst 4 (a0.table.list_.map eDLease), .lst 2 (a0.intents.map eDIntent), .lst 1 (a0.accounts.map eI), .bool a0.sealed]), (256, [.own 512 0 0 (kvV p13)])], []⟩ (fgk (by kernel_rfl)) (seq_ (block_ (seq_ (reg_ ?_)))))
   obtain ⟨y23, e24, h1⟩ := bnd h1
   refine st (c_ (cidxO (e := eI) (y := y23) rfl rfl tv rfl rfl tv e24) ?_)
   obtain ⟨y25, e26, h1⟩ := bnd h1
   refine st (c_ (cloadO (e := eI) (y := y25) (v := iV y25) rfl rfl tv rfl rfl e26 rfl (nl rfl) rfl) (st (mv_ rfl tv (oe_ (wk_ ⟨[(1, .ptr 64 0), (4, .ptr 256 0), (6, iV y25), (16, .own 1024 0 1 (r5.map eI)), (17, iV (r5.length : Int)), (18, iV p12)], [(64, [iV a0.table.clock, iV a0.table.next, .lst 4 (a0.table.list_.map eDLease), .lst 2 (a0.intents.map eDIntent), .lst 1 (a0.accounts.map eI), .bool a0.sealed]), (256, [.own 512 0 0 (kvV p13)])], []⟩ (fgk (by kernel_rfl)) (reg_ (st (c_ (cp_ ⟨tv, tv⟩ rfl (nl rfl)) (st (mv_ rfl tv (st (mset_ rfl rfl rfl (oe_ (bn_ (wk_ ⟨[(1, .ptr 64 0), (4, .ptr 256 0), (16, .own 1024 0 1 (r5.map eI)), (17, iV (r5.length : Int)), (18, iV p12)], [(64, [iV a0.table.clock, iV a0.table.next, .lst 4 (a0.table.list_.map eDLease), .lst 2 (a0.intents.map eDIntent), .lst 1 (a0.accounts.map eI), .bool a0.sealed]), (256, [.own 512 0 0 (kvV (kvPut p13 y25 true))])], []⟩ (fg ⟨rfl, rfl, rfl, rfl, rfl, tv⟩ ⟨rfl, (congrArg (fun z => some (([.own 512 0 0 z] : List V))) mputH_kv), tv⟩) (reg_ (st (c_ (cp_ t3 rfl tv) (st (mv_ rfl tv (oe_ ?_)))))))))))))))))))))
   obtain rfl := Option.some.inj h1
   exact hK1 _ rfl _ ⟨[(1, .ptr 64 0), (4, .ptr 256 0), (16, .own 1024 0 1 (r5.map eI)), (17, iV (r5.length : Int)), (18, iV (IntKind.i64.wrap (p12 + 1)))], [(64, [iV a0.table.clock, iV a0.table.next, .lst 4 (a0.table.list_.map eDLease), .lst 2 (a0.intents.map eDIntent), .lst 1 (a0.accounts.map eI), .bool a0.sealed]), (256, [.own 512 0 0 (kvV (kvPut p13 y25 true))])], []⟩ (fgk (by kernel_rfl)) rfl
  ·replace h1 := inb c22 h1
   obtain rfl := Option.some.inj h1
   obtain rfl := hx1 _ rfl
   refine exQ rfl ?_
   exact hE1 _ ⟨[(1, .ptr 64 0), (4, .ptr 256 0)], [(64, [iV a0.table.clock, iV a0.table.next, .lst 4 (a0.table.list_.map eDLease), .lst 2 (a0.intents.map eDIntent), .lst 1 (a0.accounts.map eI), .bool a0.sealed]), (256, [.own 512 0 0 (kvV p13)])], []⟩ (fgk (by kernel_rfl)) ⟨_, rfl, rfl⟩

/- slices.ContainsFunc[[]int,int] -/
def c129_r0 : List Ins := [⟨some 4, .p (.mv (.c (.bool false))), none⟩]
def c129_r1 : List Ins := [(iQ 5 (.mv (.t 0))),
(iQ 6 (.mv (.t 1))),
⟨some 7, .call 127 [(.t 5), (.t 6)], none⟩,
⟨some 8, .p (.bin .geq (.t 7) (.c (iV 0))), none⟩,
(iQ 4 (.mv (.t 8)))]
def c129 : XFn := { np := 2, nt := 9, res := [.t 4], body := (.seq (.reg c129_r0) (.seq (.reg c129_r1) .ret)) }
def K129 (C : CRel) : Prop := ∀ (a0 : List Int) (f1 : Nat) (k1 : List V) (is1 : Int → Option Bool) (hs1 : Shut k1) (hf1 : ∀ (x0 : Int) r, is1 x0 = some r → C f1 ⟨iV x0 :: k1, []⟩ ⟨.bool r, [], []⟩) (r : Bool), g129 a0 is1 = some r → C 129 ⟨[.lst 1 (a0.map eI), .clo f1 k1], []⟩ ⟨.bool r, [], []⟩
theorem F129 {C : CRel} (H127 : K127 C) (a0 : List Int) (f1 : Nat) (k1 : List V) (is1 : Int → Option Bool) (hs1 : Shut k1) (hf1 : ∀ (x0 : Int) r, is1 x0 = some r → C f1 ⟨iV x0 :: k1, []⟩ ⟨.bool r, [], []⟩) (r : Bool) (h0 : g129 a0 is1 = some r) : FnOK C c129 ⟨[.lst 1 (a0.map eI), .clo f1 k1], []⟩ ⟨.bool r, [], []⟩ := by
 refine fn_ (nl rfl) (seq_ (reg_ (st (mvc_ tv (oe_ (wk_ ⟨[(0, .lst 1 (a0.map eI)), (1, .clo f1 k1)], [], []⟩ (fg ⟨rfl, rfl, tv⟩ tv) (seq_ (reg_ (st (mv_ rfl tv (st (mv_ rfl tv ?_))))))))))))
 obtain ⟨r1, e2, h0⟩ := bnd h0
 refine st (call0_ (r := iV r1) false (H127 a0 f1 k1 is1 hs1 hf1 r1 e2) ⟨tv, tv, tv⟩ rfl (mapc1 rfl (mapc1 (clo_sh hs1) rfl)) (fun _ => rfl) (st (c_ (cp_ t3 rfl tv) (st (mv_ rfl tv (oe_ (wk_ ⟨[(4, .bool (decide (r1 ≥ 0)))], [], []⟩ (fgk (by kernel_rfl)) ?_)))))))
 obtain rfl := Option.some.inj h0
 exact rt_ (ret_ rfl rfl rfl rfl rfl tv)

/- loop.example/g00149/impl.areAll[int]$1 -/
def c130_r0 : List Ins := [⟨some 3, .p (.mv (.c (.bool false))), none⟩]
def c130_r1 : List Ins := [(iQ 4 (.load (.t 1) 1 false)),
(iQ 5 (.mv (.t 0))),
⟨some 6, .callv (.t 4) [(.t 5)], none⟩,
(iQ 7 (.un .not (.t 6))),
(iQ 3 (.mv (.t 7)))]
def c130 : XFn := { np := 2, nt := 8, res := [.t 3], body := (.seq (.reg c130_r0) (.seq (.reg c130_r1) .ret)) }
def K130 (C : CRel) : Prop := ∀ (a0 : Int) (f1 : Nat) (k1 : List V) (is1 : Int → Option Bool) (hs1 : Shut k1) (hf1 : ∀ (x0 : Int) r, is1 x0 = some r → C f1 ⟨iV x0 :: k1, []⟩ ⟨.bool r, [], []⟩) (r : Bool), g130 a0 is1 = some r → C 130 ⟨[iV a0, .iptr [.clo f1 k1]], []⟩ ⟨.bool r, [], []⟩
theorem F130 {C : CRel}  (a0 : Int) (f1 : Nat) (k1 : List V) (is1 : Int → Option Bool) (hs1 : Shut k1) (hf1 : ∀ (x0 : Int) r, is1 x0 = some r → C f1 ⟨iV x0 :: k1, []⟩ ⟨.bool r, [], []⟩) (r : Bool) (h0 : g130 a0 is1 = some r) : FnOK C c130 ⟨[iV a0, .iptr [.clo f1 k1]], []⟩ ⟨.bool r, [], []⟩ := by
 refine fn_ (nl rfl) (seq_ (reg_ (st (mvc_ tv (oe_ (wk_ ⟨[(0, iV a0), (1, .iptr [.clo f1 k1])], [], []⟩ (fg ⟨rfl, rfl, tv⟩ tv) (seq_ (reg_ (st (c_ (cp_ ⟨tv, tv⟩ rfl (nl rfl)) (st (mv_ rfl tv ?_))))))))))))
 obtain ⟨r1, e2, h0⟩ := bnd h0
 refine st (callv0_ (r := .bool r1) rfl false (hf1 _ r1 e2) ⟨tv, tv⟩ (and_ rfl hs1.2.2.1) (mapc1 rfl (hs1.2.1 _ _ _ _ _)) (fun _ => rfl) (st (c_ (cp_ ⟨tv, tv⟩ rfl tv) (st (mv_ rfl tv (oe_ (wk_ ⟨[(3, .bool (!r1))], [], []⟩ (fgk (by kernel_rfl)) ?_)))))))
 obtain rfl := Option.some.inj h0
 exact rt_ (ret_ rfl rfl rfl rfl rfl tv)

/- loop.example/g00149/impl.areAll[int] -/
def c97_r0 : List Ins := [⟨some 3, .box (.t 1), none⟩,
⟨some 4, .p (.mv (.c (.bool false))), none⟩]
def c97_r1 : List Ins := [(iQ 5 (.mv (.t 0))),
(iQ 6 (.fn 130 [(.t 3)])),
⟨some 7, .call 129 [(.t 5), (.t 6)], none⟩,
(iQ 8 (.un .not (.t 7))),
(iQ 4 (.mv (.t 8)))]
def c97 : XFn := { np := 2, nt := 9, res := [.t 4], body := (.seq (.reg c97_r0) (.seq (.reg c97_r1) .ret)) }
def K97 (C : CRel) : Prop := ∀ (a0 : List Int) (f1 : Nat) (k1 : List V) (is1 : Int → Option Bool) (hs1 : Shut k1) (hf1 : ∀ (x0 : Int) r, is1 x0 = some r → C f1 ⟨iV x0 :: k1, []⟩ ⟨.bool r, [], []⟩) (r : Bool), g97 a0 is1 = some r → C 97 ⟨[.lst 1 (a0.map eI), .clo f1 k1], []⟩ ⟨.bool r, [], []⟩
theorem F97 {C : CRel} (H129 : K129 C) (H130 : K130 C) (a0 : List Int) (f1 : Nat) (k1 : List V) (is1 : Int → Option Bool) (hs1 : Shut k1) (hf1 : ∀ (x0 : Int) r, is1 x0 = some r → C f1 ⟨iV x0 :: k1, []⟩ ⟨.bool r, [], []⟩) (r : Bool) (h0 : g97 a0 is1 = some r) : FnOK C c97 ⟨[.lst 1 (a0.map eI), .clo f1 k1], []⟩ ⟨.bool r, [], []⟩ := by
 refine fn_ (nl rfl) (seq_ (reg_ (st (box_ (dr_sh hs1) tv rfl (sw ⟨[(0, .lst 1 (a0.map eI)), (3, .ptr 192 0)], [(192, [.clo f1 k1])], []⟩ (fg ⟨rfl, rfl, tv⟩ ⟨rfl, tv⟩) (mvc_ tv (oe_ (wk_ ⟨[(0, .lst 1 (a0.map eI)), (3, .ptr 192 0)], [(192, [.clo f1 k1])], []⟩ (fg ⟨rfl, rfl, tv⟩ ⟨rfl, tv⟩) (seq_ (reg_ (st (mv_ rfl tv (st (c_ (cp_ ⟨tv, tv⟩ rfl rfl) ?_))))))))))))))
 obtain ⟨r1, e2, h0⟩ := bnd h0
 refine st (call0_ (r := .bool r1) false (H129 a0 130 [.iptr [.clo f1 k1]] (fun z130_0 => g130 z130_0 is1) (⟨fun _ _ _ _ _ => rfl, fun _ _ _ _ _ => rfl, rfl, fun _ _ _ n => by cases n <;> rfl, fun _ => rfl⟩) (fun z130_0 r h => H130 z130_0 f1 k1 is1 hs1 hf1 r h) r1 e2) ⟨tv, tv, tv⟩ rfl (mapc1 rfl (mapc1 (congrArg (fun z => V.clo 130 [.iptr [.clo f1 z]]) (hs1.2.2.2.1 _ _ _ _)) rfl)) (fun _ => rfl) (st (c_ (cp_ ⟨tv, tv⟩ rfl tv) (st (mv_ rfl tv (oe_ (wk_ ⟨[(4, .bool (!r1))], [], []⟩ (fgk (by kernel_rfl)) ?_)))))))
 obtain rfl := Option.some.inj h0
 exact rt_ (ret_ rfl rfl rfl rfl rfl tv)

/- slices.BinarySearchFunc[[]loop.example/g00149/impl.Lease,loop.example/g00149/impl.Lease,int] -/
def c113_r0 : List Ins := [⟨some 6, .p (.mv (.c (iV 0))), none⟩,
⟨some 7, .p (.mv (.c (.bool false))), none⟩]
def c113_r1 : List Ins := [(iQ 12 (.mv (.t 0))),
(iQ 13 (.len (.t 12))),
(iQ 8 (.mv (.t 13)))]
def c113_r2 : List Ins := [(iQ 14 (.mv (.t 8))),
⟨some 9, .p (.mv (.c (iV 0))), none⟩,
(iQ 10 (.mv (.t 14)))]
def c113_r3 : List Ins := [(iQ 15 (.mv (.t 9))),
(iQ 16 (.mv (.t 10))),
(iQ 17 (.bin .lss (.t 15) (.t 16)))]
def c113_r4 : List Ins := [(iQ 18 (.mv (.t 9))),
(iQ 19 (.mv (.t 10))),
(iQ 20 (.bin .add (.t 18) (.t 19))),
(iQ 21 (.conv .u64 (.t 20))),
⟨some 22, .p (.bin .shr (.t 21) (.c (.int .u64 1))), none⟩,
(iQ 23 (.conv .i64 (.t 22))),
(iQ 11 (.mv (.t 23)))]
def c113_r5 : List Ins := [(iQ 24 (.mv (.t 2))),
(iQ 25 (.mv (.t 0))),
(iQ 26 (.mv (.t 11))),
(iQ 27 (.idxA (.t 25) (.t 26) 4)),
(iQ 28 (.load (.t 27) 4 true)),
(iQ 29 (.mv (.t 1))),
⟨some 30, .callv (.t 24) [(.t 28), (.t 29)], none⟩,
⟨some 31, .p (.bin .lss (.t 30) (.c (iV 0))), none⟩]
def c113_r6 : List Ins := [(iQ 32 (.mv (.t 11))),
⟨some 33, .p (.bin .add (.t 32) (.c (iV 1))), none⟩,
(iQ 9 (.mv (.t 33)))]
def c113_r7 : List Ins := [(iQ 34 (.mv (.t 11))),
(iQ 10 (.mv (.t 34)))]
def c113_l0 : IR := (.seq (.seq (.reg c113_r3) (.ite (.t 17) .skip (.exit 0))) (.block 1 (.seq (.reg c113_r4) (.seq (.reg c113_r5) (.ite (.t 31) (.reg c113_r6) (.reg c113_r7))))))
def c113_r8 : List Ins := [(iQ 35 (.mv (.t 9))),
(iQ 36 (.mv (.t 9))),
(iQ 37 (.mv (.t 8))),
(iQ 38 (.bin .lss (.t 36) (.t 37))),
(iQ 39 (.mv (.t 38))),
⟨some 40, .p (.mv (.t 2)), some (39, true)⟩,
⟨some 41, .p (.mv (.t 0)), some (39, true)⟩,
⟨some 42, .p (.mv (.t 9)), some (39, true)⟩,
⟨some 43, .p (.idxA (.t 41) (.t 42) 4), some (39, true)⟩,
⟨some 44, .p (.load (.t 43) 4 true), some (39, true)⟩,
⟨some 45, .p (.mv (.t 1)), some (39, true)⟩,
⟨some 46, .callv (.t 40) [(.t 44), (.t 45)], some (39, true)⟩,
⟨some 47, .p (.bin .eql (.t 46) (.c (iV 0))), some (39, true)⟩,
⟨some 48, .pick (.t 39) (.t 47) (.c (.bool false)), none⟩,
(iQ 6 (.mv (.t 35))),
(iQ 7 (.mv (.t 48)))]
def c113 : XFn := { np := 3, nt := 49, res := [.t 6, .t 7], body := (.seq (.reg c113_r0) (.seq (.reg c113_r1) (.seq (.reg c113_r2) (.seq (.block 0 (.loop c113_l0)) (.seq (.reg c113_r8) .ret))))) }
def K113 (C : CRel) : Prop := ∀ (a0 : List DLease) (a1 : Int) (f2 : Nat) (k2 : List V) (is2 : DLease → Int → Option Int) (hs2 : Shut k2) (hf2 : ∀ (x0 : DLease) (x1 : Int) r, is2 x0 x1 = some r → C f2 ⟨.agg (eDLease x0) :: iV x1 :: k2, []⟩ ⟨iV r, [], []⟩) (r : Int × Bool), g113 a0 a1 is2 = some r → C 113 ⟨[.lst 4 (a0.map eDLease), iV a1, .clo f2 k2], []⟩ ⟨.tup [iV r.1, .bool r.2], [], []⟩
theorem F113 {C : CRel}  (a0 : List DLease) (a1 : Int) (f2 : Nat) (k2 : List V) (is2 : DLease → Int → Option Int) (hs2 : Shut k2) (hf2 : ∀ (x0 : DLease) (x1 : Int) r, is2 x0 x1 = some r → C f2 ⟨.agg (eDLease x0) :: iV x1 :: k2, []⟩ ⟨iV r, [], []⟩) (r : Int × Bool) (h0 : g113 a0 a1 is2 = some r) : FnOK C c113 ⟨[.lst 4 (a0.map eDLease), iV a1, .clo f2 k2], []⟩ ⟨.tup [iV r.1, .bool r.2], [], []⟩ := by
 refine fn_ (nl rfl) (seq_ (reg_ (st (mvc_ tv (st (mvc_ tv (oe_ (wk_ ⟨[(0, .lst 4 (a0.map eDLease)), (1, iV a1), (2, .clo f2 k2)], [], []⟩ (fg ⟨rfl, rfl, rfl, tv⟩ tv) (seq_ (reg_ (st (mv_ rfl tv (st (c_ (clenL (e := eDLease) (l0 := a0) rfl rfl tv) (st (mv_ rfl tv (oe_ (wk_ ⟨[(0, .lst 4 (a0.map eDLease)), (1, iV a1), (2, .clo f2 k2), (8, iV (a0.length : Int))], [], []⟩ (fg ⟨rfl, rfl, rfl, rfl, tv⟩ tv) (seq_ (reg_ (st (mv_ rfl tv (st (mvc_ tv (st (mv_ rfl tv (oe_ (wk_ ⟨[(0, .lst 4 (a0.map eDLease)), (1, iV a1), (2, .clo f2 k2), (8, iV (a0.length : Int)), (9, iV 0), (10, iV (a0.length : Int))], [], []⟩ (fg ⟨rfl, rfl, rfl, rfl, rfl, rfl, tv⟩ tv) (seq_ (block_ ?_))))))))))))))))))))))))))))))
 obtain ⟨r30, e31, h0⟩ := bnd h0
 refine loop_ (R := (fun S => ∃ p21 : Int, p21 = r30 ∧ S = ⟨[(0, .lst 4 (a0.map eDLease)), (1, iV a1), (2, .clo f2 k2), (8, iV (a0.length : Int)), (9, iV p21)], [], []⟩)) (g113_l0 a0 a1 is2) (fun s S => match s with | (p9, p10) => S = ⟨[(0, .lst 4 (a0.map eDLease)), (1, iV a1), (2, .clo f2 k2), (8, iV (a0.length : Int)), (9, iV p9), (10, iV p10)], [], []⟩) e31 ⟨[(0, .lst 4 (a0.map eDLease)), (1, iV a1), (2, .clo f2 k2), (8, iV (a0.length : Int)), (9, iV 0), (10, iV (a0.length : Int))], [], []⟩ (fg ⟨rfl, rfl, rfl, rfl, rfl, rfl, tv⟩ tv) rfl 0 (fun _ => rfl) ?_ ?_
 ·rintro S _ hfg ⟨p21, rfl, rfl⟩
  refine wk_ ⟨[(0, .lst 4 (a0.map eDLease)), (1, iV a1), (2, .clo f2 k2), (8, iV (a0.length : Int)), (9, iV p21)], [], []⟩ (fgl hfg ⟨rfl, rfl, rfl, rfl, rfl, tv⟩ tv) (seq_ (reg_ (st (mv_ rfl tv (st (mv_ rfl tv (st (mv_ rfl tv (st (c_ (cp_ t3 rfl tv) (st (mv_ rfl tv (st (pg_ (u := .clo f2 k2) rfl (fun hg => (cmv (v := .clo f2 k2) rfl tv)) (st (pg_ (u := .lst 4 (a0.map eDLease)) rfl (fun hg => (cmv (v := .lst 4 (a0.map eDLease)) rfl tv)) (st (pg_ (u := iV p21) rfl (fun hg => (cmv (v := iV p21) rfl tv)) ?_))))))))))))))))))
  obtain ⟨y32, e33, h0⟩ := bnd h0
  refine st (pg_ (u := .iptr [iV y32.id, iV y32.until_, iV y32.cap, .bool y32.queued]) rfl (fun hg => (cidxL (e := eDLease) (y := y32) rfl rfl (fun _ => hg) rfl rfl (fun _ => hg) (ip hg e33))) (st (pg_ (u := .agg (eDLease y32)) rfl (fun hg => (cp_ ⟨(fun _ => hg), tv⟩ rfl (nl rfl))) (st (pg_ (u := iV a1) rfl (fun hg => (cmv (v := iV a1) rfl tv)) ?_)))))
  obtain ⟨r34, e35, h0⟩ := bnd h0
  refine sw ⟨[(35, iV p21), (39, .bool (decide (p21 < (a0.length : Int)))), (40, .may ((decide (p21 < (a0.length : Int))) == true) (.clo f2 k2)), (44, .may ((decide (p21 < (a0.length : Int))) == true) (.agg (eDLease y32))), (45, .may ((decide (p21 < (a0.length : Int))) == true) (iV a1))], [], []⟩ (fg ⟨rfl, rfl, rfl, rfl, rfl, tv⟩ tv) (callvg_ (r := iV r34) rfl rfl rfl (fun hg => hg) false (fun hg => hf2 _ _ r34 (ip hg e35)) ⟨(fun hg => hg), (fun hg => hg), tv⟩ (fun _ => (and_ rfl (and_ rfl hs2.2.2.1))) (fun _ => (mapc1 rfl (mapc1 rfl (hs2.2.1 _ _ _ _ _)))) (fun _ => rfl) (fun h => nomatch h) (st (pg_ (u := .bool (r34 == 0)) rfl (fun hg => (cp_ ⟨(fun _ => hg), tv, tv⟩ rfl tv)) (st (pick_ rfl rfl rfl (fun h => eqt h) tv rfl (st (mv_ rfl tv (st (mv_ rfl tv (oe_ (wk_ ⟨[(6, iV p21), (7, .bool (bif (decide (p21 < (a0.length : Int))) then (r34 == 0) else false))], [], []⟩ (fgk (by kernel_rfl)) ?_)))))))))))
  obtain rfl := Option.some.inj h0
  exact rt_ (ret_ rfl rfl rfl rfl rfl tv)
 ·rintro ⟨p9, p10⟩ o1 _ K1 rfl h1 hx1 hK1 hE1 hR1
  refine seq_ (seq_ (reg_ (st (mv_ rfl tv (st (mv_ rfl tv (st (c_ (cp_ t3 rfl tv) (oe_ (wk_ ⟨[(0, .lst 4 (a0.map eDLease)), (1, iV a1), (2, .clo f2 k2), (8, iV (a0.length : Int)), (9, iV p9), (10, iV p10), (17, .bool (decide (p9 < p10)))], [], []⟩ (fg ⟨rfl, rfl, rfl, rfl, rfl, rfl, rfl, tv⟩ tv) (ite_ (cb := (decide (p9 < p10))) rfl (fun c22 => ?_) (fun c22 => ?_))))))))))))
  ·replace h1 := ip c22 h1
   refine sk_ (wk_ ⟨[(0, .lst 4 (a0.map eDLease)), (1, iV a1), (2, .clo f2 k2), (8, iV (a0.length : Int)), (9, iV p9), (10, iV p10)], [], []⟩ (fg ⟨rfl, rfl, rfl, rfl, rfl, rfl, tv⟩ tv) (block_ (seq_ (reg_ (st (mv_ rfl tv (st (mv_ rfl tv (st (c_ (cp_ t3 rfl tv) (st (c_ (cp_ ⟨tv, tv⟩ rfl tv) (st (c_ (cp_ ⟨tv, tv, tv⟩ rfl (by decide)) (st (c_ (cp_ ⟨tv, tv⟩ rfl tv) (st (mv_ rfl tv (oe_ ?_)))))))))))))))))))
   obtain ⟨v23, e24, h1⟩ := bl h1
   refine wk_ ⟨[(0, .lst 4 (a0.map eDLease)), (1, iV a1), (2, .clo f2 k2), (8, iV (a0.length : Int)), (9, iV p9), (10, iV p10), (11, iV v23)], [], []⟩ (fg ⟨(by subst e24; rfl), (by subst e24; rfl), (by subst e24; rfl), (by subst e24; rfl), (by subst e24; rfl), (by subst e24; rfl), (by subst e24; rfl), tv⟩ tv) (seq_ (reg_ (st (mv_ rfl tv (st (mv_ rfl tv (st (mv_ rfl tv ?_))))))))
   obtain ⟨y25, e26, h1⟩ := bnd h1
   refine st (c_ (cidxL (e := eDLease) (y := y25) rfl rfl tv rfl rfl tv e26) (st (c_ (v := .agg (eDLease y25)) (cp_ ⟨tv, tv⟩ rfl (nl rfl)) (st (mv_ rfl tv ?_)))))
   obtain ⟨r27, e28, h1⟩ := bnd h1
   refine st (callv0_ (r := iV r27) rfl false (hf2 _ _ r27 e28) ⟨tv, tv, tv⟩ (and_ rfl (and_ rfl hs2.2.2.1)) (mapc1 rfl (mapc1 rfl (hs2.2.1 _ _ _ _ _))) (fun _ => rfl) (st (c_ (cp_ t3 rfl tv) (oe_ (wk_ ⟨[(0, .lst 4 (a0.map eDLease)), (1, iV a1), (2, .clo f2 k2), (8, iV (a0.length : Int)), (9, iV p9), (10, iV p10), (11, iV v23), (31, .bool (decide (r27 < 0)))], [], []⟩ (fg ⟨rfl, rfl, rfl, rfl, rfl, rfl, rfl, rfl, tv⟩ tv) (ite_ (cb := (decide (r27 < 0))) rfl (fun c29 => ?_) (fun c29 => ?_)))))))
   ·replace h1 := ip c29 h1
    refine reg_ (st (mv_ rfl tv (st (c_ (cp_ t3 rfl tv) (st (mv_ rfl tv (oe_ (bn_ ?_))))))))
    obtain rfl := Option.some.inj h1
    exact hK1 _ rfl _ ⟨[(0, .lst 4 (a0.map eDLease)), (1, iV a1), (2, .clo f2 k2), (8, iV (a0.length : Int)), (9, iV (IntKind.i64.wrap (v23 + 1))), (10, iV p10)], [], []⟩ (fg ⟨rfl, rfl, rfl, rfl, rfl, rfl, tv⟩ tv) rfl
   ·replace h1 := inb c29 h1
    refine reg_ (st (mv_ rfl tv (st (mv_ rfl tv (oe_ (bn_ ?_))))))
    obtain rfl := Option.some.inj h1
    exact hK1 _ rfl _ ⟨[(0, .lst 4 (a0.map eDLease)), (1, iV a1), (2, .clo f2 k2), (8, iV (a0.length : Int)), (9, iV p9), (10, iV v23)], [], []⟩ (fg ⟨rfl, rfl, rfl, rfl, rfl, rfl, tv⟩ tv) rfl
  ·replace h1 := inb c22 h1
   obtain rfl := Option.some.inj h1
   obtain rfl := hx1 _ rfl
   refine exQ rfl ?_
   exact hE1 _ ⟨[(0, .lst 4 (a0.map eDLease)), (1, iV a1), (2, .clo f2 k2), (8, iV (a0.length : Int)), (9, iV p9)], [], []⟩ (fg ⟨rfl, rfl, rfl, rfl, rfl, tv⟩ tv) ⟨_, rfl, rfl⟩

/- cmp.isNaN[int] -/
def c136_r0 : List Ins := [⟨some 2, .p (.mv (.c (.bool false))), none⟩]
def c136_r1 : List Ins := [(iQ 3 (.mv (.t 0))),
(iQ 4 (.mv (.t 0))),
(iQ 5 (.bin .neq (.t 3) (.t 4))),
(iQ 2 (.mv (.t 5)))]
def c136 : XFn := { np := 1, nt := 6, res := [.t 2], body := (.seq (.reg c136_r0) (.seq (.reg c136_r1) .ret)) }
def K136 (C : CRel) : Prop := ∀ (a0 : Int) (r : Bool), g136 a0 = some r → C 136 ⟨[iV a0], []⟩ ⟨.bool r, [], []⟩
theorem F136 {C : CRel}  (a0 : Int) (r : Bool) (h0 : g136 a0 = some r) : FnOK C c136 ⟨[iV a0], []⟩ ⟨.bool r, [], []⟩ := by
 refine fn_ (nl rfl) (seq_ (reg_ (st (mvc_ tv (oe_ (wk_ ⟨[(0, iV a0)], [], []⟩ (fgk (by kernel_rfl)) (seq_ (reg_ (st (mv_ rfl tv (st (mv_ rfl tv (st (c_ (cp_ t3 rfl tv) (st (mv_ rfl tv (oe_ (wk_ ⟨[(2, .bool (a0 != a0))], [], []⟩ (fgk (by kernel_rfl)) ?_))))))))))))))))))
 obtain rfl := Option.some.inj h0
 exact rt_ (ret_ rfl rfl rfl rfl rfl tv)
end Go.Ev
